-- joined out of the texts GSxf82 GSxf59 GSxf81 GSxf80 GSxf58 GSxf21
import Derived.Test.YtappphffbnkloaaGreatDoorGSx0
import Derived.Test.YtappphffbnkloaaGreatDoorGSxf96
namespace Go.Proofs.YtappphffbnkloaaGreatDoor.GS
open Go.RowKit Go.Proofs.YtappphffbnkloaaGreatDoorW.PrintWords Go.Proofs.YtappphffbnkloaaGreatDoorW.PrintLast Go.Proofs.YtappphffbnkloaaGreatDoor.Ext
attribute [local go_sem] max2_int min2_int max_two min_two   -- for this text alone
set_option linter.unusedVariables false
set_option linter.unusedSimpArgs false

/-! ### larderref04_written: function 82 -/
mutual
def larderref04_written.l0 : Nat → ByteArray → Bool → List Int → Int → Option (ByteArray)
  | 0, _, _, _, _ => none
  | k + 1, x0, x3, x4, x5 => if x5 < (x0.size : Int) then (if 0 ≤ x5 then (if (bt x0 x5) = 44 then (larderref04_written.j1 k x0 x3 x4 x5 true) else (if (bt x0 x5) = 34 then (larderref04_written.j1 k x0 x3 x4 x5 true) else (if (bt x0 x5) = 13 then (larderref04_written.j1 k x0 x3 x4 x5 true) else (if (bt x0 x5) = 10 then (larderref04_written.j1 k x0 x3 x4 x5 true) else (larderref04_written.j1 k x0 x3 x4 x5 ((bt x0 x5) == 9)))))) else (none)) else (if x3 = true then (if x4.length < 140737488355328 then (some (strOfNums (x4 ++ [34]))) else (none)) else (some x0))
def larderref04_written.j1 : Nat → ByteArray → Bool → List Int → Int → Bool → Option (ByteArray)
  | 0, _, _, _, _, _ => none
  | k + 1, x0, x3, x4, x5, x40 => if x40 = true then (if 0 ≤ x5 then (if x5 < (x0.size : Int) then (if x4.length < 140737488355328 then ((some (x4 ++ [bt x0 x5] : List Int)).bind fun y820107 => (if (bt x0 x5) = 34 then (if y820107.length < 140737488355328 then (larderref04_written.l0 k x0 true (y820107 ++ [34]) (wrap64 (x5 + 1))) else (none)) else (larderref04_written.l0 k x0 true y820107 (wrap64 (x5 + 1))))) else (none)) else (none)) else (none)) else (if 0 ≤ x5 then (if x5 < (x0.size : Int) then (if x4.length < 140737488355328 then ((some (x4 ++ [bt x0 x5] : List Int)).bind fun y820113 => (if (bt x0 x5) = 34 then (if y820113.length < 140737488355328 then (larderref04_written.l0 k x0 x3 (y820113 ++ [34]) (wrap64 (x5 + 1))) else (none)) else (larderref04_written.l0 k x0 x3 y820113 (wrap64 (x5 + 1))))) else (none)) else (none)) else (none))
end
def larderref04_written.f (k : Nat) (a0 : ByteArray) : Option (ByteArray) := larderref04_written.l0 k a0 false (([34] : List Int)) 0
theorem larderref04_written.mono_l : ∀ k, (∀ y0 y1 y2 y3, LeO (larderref04_written.l0 k y0 y1 y2 y3) (larderref04_written.l0 (k + 1) y0 y1 y2 y3)) ∧ (∀ y0 y1 y2 y3 y4, LeO (larderref04_written.j1 k y0 y1 y2 y3 y4) (larderref04_written.j1 (k + 1) y0 y1 y2 y3 y4))
  | 0 => ⟨fun _ _ _ _ r h => by simp [larderref04_written.l0] at h, fun _ _ _ _ _ r h => by simp [larderref04_written.j1] at h⟩
  | k + 1 => by
    obtain ⟨ih0, ih1⟩ := larderref04_written.mono_l k
    refine ⟨?_, ?_⟩
    · intro y0 y1 y2 y3
      unfold larderref04_written.l0
      repeat' first
      | (with_reducible exact ih0 _ _ _ _)
      | (with_reducible exact ih1 _ _ _ _ _)
      | (with_reducible exact LeO.refl _)
      | (with_reducible exact LeO.none _)
      | (with_reducible refine LeO.ite ?_ ?_)
      | (with_reducible refine LeO.bind ?_ (fun _ => ?_))
      | exact ih0 _ _ _ _
      | exact ih1 _ _ _ _ _
      | exact LeO.none _
      | refine LeO.ite ?_ ?_
      | refine LeO.bind ?_ (fun _ => ?_)
    · intro y0 y1 y2 y3 y4
      unfold larderref04_written.j1
      repeat' first
      | (with_reducible exact ih0 _ _ _ _)
      | (with_reducible exact ih1 _ _ _ _ _)
      | (with_reducible exact LeO.refl _)
      | (with_reducible exact LeO.none _)
      | (with_reducible refine LeO.ite ?_ ?_)
      | (with_reducible refine LeO.bind ?_ (fun _ => ?_))
      | exact ih0 _ _ _ _
      | exact ih1 _ _ _ _ _
      | exact LeO.none _
      | refine LeO.ite ?_ ?_
      | refine LeO.bind ?_ (fun _ => ?_)
theorem larderref04_written.mono : ∀ a0 k, LeO (larderref04_written.f k a0) (larderref04_written.f (k + 1) a0) := by
  intro a0 k
  obtain ⟨ih0, ih1⟩ := larderref04_written.mono_l k
  unfold larderref04_written.f
  repeat' first
      | (with_reducible exact ih0 _ _ _ _)
      | (with_reducible exact ih1 _ _ _ _ _)
      | (with_reducible exact LeO.refl _)
      | (with_reducible exact LeO.none _)
      | (with_reducible refine LeO.ite ?_ ?_)
      | (with_reducible refine LeO.bind ?_ (fun _ => ?_))
      | exact ih0 _ _ _ _
      | exact ih1 _ _ _ _ _
      | exact LeO.none _
      | refine LeO.ite ?_ ?_
      | refine LeO.bind ?_ (fun _ => ?_)
set_option maxHeartbeats 8000000 in
set_option maxRecDepth 100000 in
theorem larderref04_written.calls (k : Nat) (a0 : ByteArray) (r : ByteArray) (w : World) (h : larderref04_written.f k a0 = some r) :
    Calls Tryz.prog 82 #[.string a0] w fun e w' => e = .returned (.string r) ∧ Below w.heap.size w w' := by
  have HB := Aside0.mk (Below.refl w.heap.size w)
  have H : (larderref04_written.l0 k a0 false (([34] : List Int)) 0) = some r := h
  clear h
  obtain ⟨y820101, hy820101⟩ : ∃ y_ : List Int, y_ = (([34] : List Int)) := ⟨_, rfl⟩
  replace H : (larderref04_written.l0 k a0 false y820101 0) = some r := by first | (rw [hy820101]; with_reducible exact H) | (have H2_ := (Option.bind_some _ _).symm.trans H; rw [hy820101]; with_reducible exact H2_) | (have H2_ := (Option.bind_some _ _).symm.trans H; with_reducible exact H2_) | with_reducible exact H | (rw [hy820101]; exact H) | exact H
  have Ny820101 := Aside0.mk hy820101
  clear hy820101
  have H' := Aside0.mk H
  clear H
  go_enter Tryz.func82, Tryz.ntmps82
  go_wp2_with (first | ((with_reducible refine gate_dst (N := 6) rfl ?_); refine Kd.R_lit (Kd.int .u8) _ 5 ?hg (N := 6) ?hd (xs := ([34] : List Int)) (inner := [.int .u8 34]) (ok := fun _ => True) (okp := fun _ => True) ?hr ?hp (fun _ hk => hk) trivial (Below.refl _ _) (Nat.le_refl _) (by simp) ?_; (case hd => rfl); (case hg => rfl); (case hr => first | (go_simp; done) | (go_simp; rfl)); (case hp => exact (Reps.one (show Kd.M (Kd.int .u8) _ _ _ 34 [.int .u8 34] from rfl) (Reps.none _ _))); intro v820102 w2 ho3 hb hg_ hnew_; clear hg_ hnew_; (first | rw [← Ny820101.out] at ho3 | (simp only [Int.reduceToNat] at ho3; rw [← Ny820101.out] at ho3)); have n0_ := Aside0.mk (Kd.R_lower ho3 (below_size (by repeat (first | (with_reducible first | exact HB.out | apply below_alloc | apply pw_below_drewN | apply below_drew1) | exact HB.out)))); have n1_ := Aside0.mk (below_step (by repeat (first | (with_reducible first | exact HB.out | apply below_alloc | apply pw_below_drewN | apply below_drew1) | exact HB.out)) hb); clear HB; have HO820103 := n0_; have HB := n1_; clear n0_ n1_; clear hb ho3))
  go_loopg [3, 4, 5] k (fun kq v3 v4 v5 w' => ∃ (x3_1 : Bool) (x4_1 : List Int) (x5_1 : Int), v3 = .bool x3_1 ∧ v5 = .int .i64 x5_1 ∧ Aside0 (larderref04_written.l0 kq a0 x3_1 x4_1 x5_1 = some r) ∧ Aside0 (kq ≤ k) ∧ Aside0 (Kd.R (Kd.int .u8) 5 w' w.heap.size (fun _ => True) v4 x4_1) ∧ Aside0 (Below w.heap.size w w'))
  case atStart => exact ⟨(false), (y820101), (0), (by first | rfl | (simp; done) | (simp [*]; done)), (by first | rfl | (simp; done) | (simp [*]; done)), H', ⟨Nat.le_refl _⟩, ⟨by (with_reducible repeat (first | apply Kd.R_alloc | apply Kd.R_drewN | apply Kd.R_drew)); exact HO820103.out⟩, ⟨by repeat (first | (with_reducible first | exact HB.out | apply below_alloc | apply pw_below_drewN | apply below_drew1) | exact HB.out)⟩⟩
  case round =>
    clear H'
    try clear p2
    obtain ⟨x3_1, x4_1, x5_1, rfl, rfl, HA, HK1, HO_4, HB⟩ := hrel
    cases gk with
    | zero => exact absurd HA.out (by simp [larderref04_written.l0])
    | succ k1 =>
      have H := HA.out
      clear HA
      simp only [larderref04_written.l0] at H
      by_cases c4 : x5_1 < (a0.size : Int)
      · rw [if_pos c4] at H
        have c4b0 : decide (x5_1 < (a0.size : Int)) = true := decide_eq_true c4
        clear c4
        have HC5 := Aside0.mk H
        clear H
        go_upto_region 6 with (fail)
        go_cut [40] (fun v40 wc => ∃ (kq : Nat) (x40_4 : Bool), v40 = .bool x40_4 ∧ Aside0 (larderref04_written.j1 kq a0 x3_1 x4_1 x5_1 x40_4 = some r) ∧ Aside0 (kq ≤ k1) ∧ Aside0 (Kd.R (Kd.int .u8) 5 wc w.heap.size (fun _ => True) u4 x4_1) ∧ Aside0 (Below w.heap.size w wc))
        case first =>
          have H := HC5.out
          clear HC5
          by_cases c6 : 0 ≤ x5_1
          · rw [if_pos c6] at H
            have c6b0 : decide (0 ≤ x5_1) = true := decide_eq_true c6
            clear c6
            (first | rw [c6b0] | (simp only [i64_w, i32_w]; rw [c6b0]) | skip)
            by_cases c8 : (bt a0 x5_1) = 44
            · rw [if_pos c8] at H
              have c8b0 : ((bt a0 x5_1) == 44) = true := beq_iff_eq.mpr c8
              have c8b1 : ((bt a0 x5_1) != 44) = false := bne_eq_false_iff_eq.mpr c8
              clear c8
              have H' := Aside0.mk H
              clear H
              have p7 : 0 ≤ (x5_1 : Int) := of_decide_eq_true (by first | (with_reducible assumption) | assumption)
              have q7 : x5_1 < (a0.size : Int) := of_decide_eq_true (by first | (with_reducible assumption) | assumption)
              have hx7 := bt_at a0 x5_1
              replace p7 := eq_true p7
              replace q7 := eq_true q7
              go_wp2
              go_meet
              case rel => exact ⟨_, (true), (by first | rfl | (simp; done) | (simp [*]; done)), H', ⟨by have := HK1.out; first | omega | exact Nat.le_refl _⟩, ⟨by (with_reducible repeat (first | apply Kd.R_alloc | apply Kd.R_drewN | apply Kd.R_drew)); exact HO_4.out⟩, ⟨by repeat (first | (with_reducible first | exact HB.out | apply below_alloc | apply pw_below_drewN | apply below_drew1) | exact HB.out)⟩⟩
            · rw [if_neg c8] at H
              have c8b0 : ((bt a0 x5_1) == 44) = false := beq_eq_false_iff_ne.mpr c8
              have c8b1 : ((bt a0 x5_1) != 44) = true := bne_iff_ne.mpr c8
              by_cases c10 : (bt a0 x5_1) = 34
              · rw [if_pos c10] at H
                have c10b0 : ((bt a0 x5_1) == 34) = true := beq_iff_eq.mpr c10
                have c10b1 : ((bt a0 x5_1) != 34) = false := bne_eq_false_iff_eq.mpr c10
                clear c10
                have H' := Aside0.mk H
                clear H
                have p7 : 0 ≤ (x5_1 : Int) := of_decide_eq_true (by first | (with_reducible assumption) | assumption)
                have q7 : x5_1 < (a0.size : Int) := of_decide_eq_true (by first | (with_reducible assumption) | assumption)
                have hx7 := bt_at a0 x5_1
                replace p7 := eq_true p7
                replace q7 := eq_true q7
                have p9 : 0 ≤ (x5_1 : Int) := of_decide_eq_true (by first | (with_reducible assumption) | assumption)
                have q9 : x5_1 < (a0.size : Int) := of_decide_eq_true (by first | (with_reducible assumption) | assumption)
                have hx9 := bt_at a0 x5_1
                replace p9 := eq_true p9
                replace q9 := eq_true q9
                go_wp2
                go_meet
                case rel => exact ⟨_, (true), (by first | rfl | (simp; done) | (simp [*]; done)), H', ⟨by have := HK1.out; first | omega | exact Nat.le_refl _⟩, ⟨by (with_reducible repeat (first | apply Kd.R_alloc | apply Kd.R_drewN | apply Kd.R_drew)); exact HO_4.out⟩, ⟨by repeat (first | (with_reducible first | exact HB.out | apply below_alloc | apply pw_below_drewN | apply below_drew1) | exact HB.out)⟩⟩
              · rw [if_neg c10] at H
                have c10b0 : ((bt a0 x5_1) == 34) = false := beq_eq_false_iff_ne.mpr c10
                have c10b1 : ((bt a0 x5_1) != 34) = true := bne_iff_ne.mpr c10
                by_cases c12 : (bt a0 x5_1) = 13
                · rw [if_pos c12] at H
                  have c12b0 : ((bt a0 x5_1) == 13) = true := beq_iff_eq.mpr c12
                  have c12b1 : ((bt a0 x5_1) != 13) = false := bne_eq_false_iff_eq.mpr c12
                  clear c12
                  have H' := Aside0.mk H
                  clear H
                  have p7 : 0 ≤ (x5_1 : Int) := of_decide_eq_true (by first | (with_reducible assumption) | assumption)
                  have q7 : x5_1 < (a0.size : Int) := of_decide_eq_true (by first | (with_reducible assumption) | assumption)
                  have hx7 := bt_at a0 x5_1
                  replace p7 := eq_true p7
                  replace q7 := eq_true q7
                  have p9 : 0 ≤ (x5_1 : Int) := of_decide_eq_true (by first | (with_reducible assumption) | assumption)
                  have q9 : x5_1 < (a0.size : Int) := of_decide_eq_true (by first | (with_reducible assumption) | assumption)
                  have hx9 := bt_at a0 x5_1
                  replace p9 := eq_true p9
                  replace q9 := eq_true q9
                  have p11 : 0 ≤ (x5_1 : Int) := of_decide_eq_true (by first | (with_reducible assumption) | assumption)
                  have q11 : x5_1 < (a0.size : Int) := of_decide_eq_true (by first | (with_reducible assumption) | assumption)
                  have hx11 := bt_at a0 x5_1
                  replace p11 := eq_true p11
                  replace q11 := eq_true q11
                  go_wp2
                  go_meet
                  case rel => exact ⟨_, (true), (by first | rfl | (simp; done) | (simp [*]; done)), H', ⟨by have := HK1.out; first | omega | exact Nat.le_refl _⟩, ⟨by (with_reducible repeat (first | apply Kd.R_alloc | apply Kd.R_drewN | apply Kd.R_drew)); exact HO_4.out⟩, ⟨by repeat (first | (with_reducible first | exact HB.out | apply below_alloc | apply pw_below_drewN | apply below_drew1) | exact HB.out)⟩⟩
                · rw [if_neg c12] at H
                  have c12b0 : ((bt a0 x5_1) == 13) = false := beq_eq_false_iff_ne.mpr c12
                  have c12b1 : ((bt a0 x5_1) != 13) = true := bne_iff_ne.mpr c12
                  by_cases c14 : (bt a0 x5_1) = 10
                  · rw [if_pos c14] at H
                    have c14b0 : ((bt a0 x5_1) == 10) = true := beq_iff_eq.mpr c14
                    have c14b1 : ((bt a0 x5_1) != 10) = false := bne_eq_false_iff_eq.mpr c14
                    clear c14
                    have H' := Aside0.mk H
                    clear H
                    have p7 : 0 ≤ (x5_1 : Int) := of_decide_eq_true (by first | (with_reducible assumption) | assumption)
                    have q7 : x5_1 < (a0.size : Int) := of_decide_eq_true (by first | (with_reducible assumption) | assumption)
                    have hx7 := bt_at a0 x5_1
                    replace p7 := eq_true p7
                    replace q7 := eq_true q7
                    have p9 : 0 ≤ (x5_1 : Int) := of_decide_eq_true (by first | (with_reducible assumption) | assumption)
                    have q9 : x5_1 < (a0.size : Int) := of_decide_eq_true (by first | (with_reducible assumption) | assumption)
                    have hx9 := bt_at a0 x5_1
                    replace p9 := eq_true p9
                    replace q9 := eq_true q9
                    have p11 : 0 ≤ (x5_1 : Int) := of_decide_eq_true (by first | (with_reducible assumption) | assumption)
                    have q11 : x5_1 < (a0.size : Int) := of_decide_eq_true (by first | (with_reducible assumption) | assumption)
                    have hx11 := bt_at a0 x5_1
                    replace p11 := eq_true p11
                    replace q11 := eq_true q11
                    have p13 : 0 ≤ (x5_1 : Int) := of_decide_eq_true (by first | (with_reducible assumption) | assumption)
                    have q13 : x5_1 < (a0.size : Int) := of_decide_eq_true (by first | (with_reducible assumption) | assumption)
                    have hx13 := bt_at a0 x5_1
                    replace p13 := eq_true p13
                    replace q13 := eq_true q13
                    go_wp2
                    go_meet
                    case rel => exact ⟨_, (true), (by first | rfl | (simp; done) | (simp [*]; done)), H', ⟨by have := HK1.out; first | omega | exact Nat.le_refl _⟩, ⟨by (with_reducible repeat (first | apply Kd.R_alloc | apply Kd.R_drewN | apply Kd.R_drew)); exact HO_4.out⟩, ⟨by repeat (first | (with_reducible first | exact HB.out | apply below_alloc | apply pw_below_drewN | apply below_drew1) | exact HB.out)⟩⟩
                  · rw [if_neg c14] at H
                    have c14b0 : ((bt a0 x5_1) == 10) = false := beq_eq_false_iff_ne.mpr c14
                    have c14b1 : ((bt a0 x5_1) != 10) = true := bne_iff_ne.mpr c14
                    have H' := Aside0.mk H
                    clear H
                    have p7 : 0 ≤ (x5_1 : Int) := of_decide_eq_true (by first | (with_reducible assumption) | assumption)
                    have q7 : x5_1 < (a0.size : Int) := of_decide_eq_true (by first | (with_reducible assumption) | assumption)
                    have hx7 := bt_at a0 x5_1
                    replace p7 := eq_true p7
                    replace q7 := eq_true q7
                    have p9 : 0 ≤ (x5_1 : Int) := of_decide_eq_true (by first | (with_reducible assumption) | assumption)
                    have q9 : x5_1 < (a0.size : Int) := of_decide_eq_true (by first | (with_reducible assumption) | assumption)
                    have hx9 := bt_at a0 x5_1
                    replace p9 := eq_true p9
                    replace q9 := eq_true q9
                    have p11 : 0 ≤ (x5_1 : Int) := of_decide_eq_true (by first | (with_reducible assumption) | assumption)
                    have q11 : x5_1 < (a0.size : Int) := of_decide_eq_true (by first | (with_reducible assumption) | assumption)
                    have hx11 := bt_at a0 x5_1
                    replace p11 := eq_true p11
                    replace q11 := eq_true q11
                    have p13 : 0 ≤ (x5_1 : Int) := of_decide_eq_true (by first | (with_reducible assumption) | assumption)
                    have q13 : x5_1 < (a0.size : Int) := of_decide_eq_true (by first | (with_reducible assumption) | assumption)
                    have hx13 := bt_at a0 x5_1
                    replace p13 := eq_true p13
                    replace q13 := eq_true q13
                    have p15 : 0 ≤ (x5_1 : Int) := of_decide_eq_true (by first | (with_reducible assumption) | assumption)
                    have q15 : x5_1 < (a0.size : Int) := of_decide_eq_true (by first | (with_reducible assumption) | assumption)
                    have hx15 := bt_at a0 x5_1
                    replace p15 := eq_true p15
                    replace q15 := eq_true q15
                    go_wp2
                    go_meet
                    case rel => exact ⟨_, (((bt a0 x5_1) == 9)), (by first | rfl | (simp; done) | (simp [*]; done)), H', ⟨by have := HK1.out; first | omega | exact Nat.le_refl _⟩, ⟨by (with_reducible repeat (first | apply Kd.R_alloc | apply Kd.R_drewN | apply Kd.R_drew)); exact HO_4.out⟩, ⟨by repeat (first | (with_reducible first | exact HB.out | apply below_alloc | apply pw_below_drewN | apply below_drew1) | exact HB.out)⟩⟩
          · rw [if_neg c6] at H
            exact absurd H (by simp)
        case rest =>
          clear HC5
          try clear c1
          try clear p1
          try clear q1
          try clear hx1
          try clear p2
          try clear c4
          try clear c4b0
          try clear c6
          try clear c6b0
          try clear p7
          try clear q7
          try clear hx7
          try clear c8
          try clear c8b0
          try clear c8b1
          try clear p9
          try clear q9
          try clear hx9
          try clear c10
          try clear c10b0
          try clear c10b1
          try clear p11
          try clear q11
          try clear hx11
          try clear c12
          try clear c12b0
          try clear c12b1
          try clear p13
          try clear q13
          try clear hx13
          try clear c14
          try clear c14b0
          try clear c14b1
          try clear p15
          try clear q15
          try clear hx15
          try clear p11
          try clear p13
          try clear p15
          try clear p2
          try clear p7
          try clear p9
          try clear q11
          try clear q13
          try clear q15
          try clear q7
          try clear q9
          obtain ⟨kq, x40_4, rfl, HA, HJ4, HO_4, HB⟩ := hcut
          cases kq with
          | zero => exact absurd HA.out (by simp [larderref04_written.j1])
          | succ kj4 =>
            have H := HA.out
            clear HA
            simp only [larderref04_written.j1] at H
            by_cases c16 : x40_4 = true
            · subst c16
              have H1 : (if 0 ≤ x5_1 then (if x5_1 < (a0.size : Int) then (if x4_1.length < 140737488355328 then ((some (x4_1 ++ [bt a0 x5_1] : List Int)).bind fun y820107 => (if (bt a0 x5_1) = 34 then (if y820107.length < 140737488355328 then (larderref04_written.l0 kj4 a0 true (y820107 ++ [34]) (wrap64 (x5_1 + 1))) else (none)) else (larderref04_written.l0 kj4 a0 true y820107 (wrap64 (x5_1 + 1))))) else (none)) else (none)) else (none)) = some r := by rw [if_pos rfl] at H; exact H
              clear H
              have H := H1
              clear H1
              by_cases c17 : 0 ≤ x5_1
              · rw [if_pos c17] at H
                have c17b0 : decide (0 ≤ x5_1) = true := decide_eq_true c17
                clear c17
                by_cases c18 : x5_1 < (a0.size : Int)
                · rw [if_pos c18] at H
                  have c18b0 : decide (x5_1 < (a0.size : Int)) = true := decide_eq_true c18
                  clear c18
                  by_cases c20 : x4_1.length < 140737488355328
                  · rw [if_pos c20] at H
                    have LMc20 := Aside0.mk c20
                    clear c20
                    obtain ⟨y820107, hy820107⟩ : ∃ y_ : List Int, y_ = (x4_1 ++ [bt a0 x5_1]) := ⟨_, rfl⟩
                    replace H : (if (bt a0 x5_1) = 34 then (if y820107.length < 140737488355328 then (larderref04_written.l0 kj4 a0 true (y820107 ++ [34]) (wrap64 (x5_1 + 1))) else (none)) else (larderref04_written.l0 kj4 a0 true y820107 (wrap64 (x5_1 + 1)))) = some r := by first | (rw [hy820107]; with_reducible exact H) | (have H2_ := (Option.bind_some _ _).symm.trans H; rw [hy820107]; with_reducible exact H2_) | (have H2_ := (Option.bind_some _ _).symm.trans H; with_reducible exact H2_) | with_reducible exact H | (rw [hy820107]; exact H) | exact H
                    have Ny820107 := Aside0.mk hy820107
                    clear hy820107
                    by_cases c22 : (bt a0 x5_1) = 34
                    · rw [if_pos c22] at H
                      have c22b0 : ((bt a0 x5_1) == 34) = true := beq_iff_eq.mpr c22
                      have c22b1 : ((bt a0 x5_1) != 34) = false := bne_eq_false_iff_eq.mpr c22
                      clear c22
                      by_cases c23 : y820107.length < 140737488355328
                      · rw [if_pos c23] at H
                        have LMc23 := Aside0.mk c23
                        clear c23
                        obtain ⟨y820110, hy820110⟩ : ∃ y_ : List Int, y_ = (y820107 ++ [34]) := ⟨_, rfl⟩
                        replace H : (larderref04_written.l0 kj4 a0 true y820110 (wrap64 (x5_1 + 1))) = some r := by first | (rw [hy820110]; with_reducible exact H) | (have H2_ := (Option.bind_some _ _).symm.trans H; rw [hy820110]; with_reducible exact H2_) | (have H2_ := (Option.bind_some _ _).symm.trans H; with_reducible exact H2_) | with_reducible exact H | (rw [hy820110]; exact H) | exact H
                        have Ny820110 := Aside0.mk hy820110
                        clear hy820110
                        have H' := Aside0.mk H
                        clear H
                        have p19 : 0 ≤ (x5_1 : Int) := of_decide_eq_true (by first | (with_reducible assumption) | assumption)
                        have q19 : x5_1 < (a0.size : Int) := of_decide_eq_true (by first | (with_reducible assumption) | assumption)
                        have hx19 := bt_at a0 x5_1
                        replace p19 := eq_true p19
                        replace q19 := eq_true q19
                        go_wp2_with (first | ((with_reducible refine gate_builtin (b := .append) (xs := #[.tmp 41, .tmp 45]) rfl ?_); at_builtin; refine Kd.R_append (Kd.int .u8) (w0 := w) w.heap.size rfl (.tmp 41) (.tmp 45) 37 5 (.int .u8 0) 1 rfl Tryz.underlying37 info5 rfl (by decide) (by omega) u4 x4_1 (bt a0 x5_1) [.int .u8 (bt a0 x5_1)] (fun _ => True) (fun _ => False) rfl rfl ?aP (fun _ hk => hk.elim) ?aF ?aO ?aB ?aS ?aL ?_; (case aP => exact rfl); (case aB => exact (by repeat (first | (with_reducible first | exact HB.out | apply below_alloc | apply pw_below_drewN | apply below_drew1) | exact HB.out))); (case aF => exact (fun _ _ => trivial)); (case aO => exact (by (with_reducible repeat (first | apply Kd.R_alloc | apply Kd.R_drewN | apply Kd.R_drew)); exact HO_4.out)); (case aS => exact (below_size (by repeat (first | (with_reducible first | exact HB.out | apply below_alloc | apply pw_below_drewN | apply below_drew1) | exact HB.out)))); (case aL => have := LMc20.out; omega); intro v820108 w24 ho hb hg hat; rw [← Ny820107.out] at ho; have n0_ := Aside0.mk (hb); have n1_ := Aside0.mk (ho); clear HB; clear HO_4; have HB := n0_; have HO820109 := n1_; clear n0_ n1_; clear ho hb hg hat; have p21 : 0 ≤ (x5_1 : Int) := of_decide_eq_true (by first | (with_reducible assumption) | assumption); have q21 : x5_1 < (a0.size : Int) := of_decide_eq_true (by first | (with_reducible assumption) | assumption); have hx21 := bt_at a0 x5_1; replace p21 := eq_true p21; replace q21 := eq_true q21) | ((with_reducible refine gate_builtin (b := .append) (xs := #[.tmp 51, .tmp 52]) rfl ?_); at_builtin; refine Kd.R_append (Kd.int .u8) (w0 := w) w.heap.size rfl (.tmp 51) (.tmp 52) 37 5 (.int .u8 0) 1 rfl Tryz.underlying37 info5 rfl (by decide) (by omega) v820108 y820107 34 [.int .u8 34] (fun _ => True) (fun _ => False) rfl rfl ?aP (fun _ hk => hk.elim) ?aF ?aO ?aB ?aS ?aL ?_; (case aP => exact rfl); (case aB => exact (by repeat (first | (with_reducible first | exact HB.out | apply below_alloc | apply pw_below_drewN | apply below_drew1) | exact HB.out))); (case aF => exact (fun _ _ => trivial)); (case aO => exact (by (with_reducible repeat (first | apply Kd.R_alloc | apply Kd.R_drewN | apply Kd.R_drew)); exact HO820109.out)); (case aS => exact (below_size (by repeat (first | (with_reducible first | exact HB.out | apply below_alloc | apply pw_below_drewN | apply below_drew1) | exact HB.out)))); (case aL => have := LMc23.out; omega); intro v820111 w25 ho hb hg hat; rw [← Ny820110.out] at ho; have n0_ := Aside0.mk (hb); have n1_ := Aside0.mk (ho); clear HB; clear HO820109; have HB := n0_; have HO820112 := n1_; clear n0_ n1_; clear ho hb hg hat))
                        go_roundg kj4
                        case measure => have := HK1.out; have := HJ4.out; omega
                        case rel => exact ⟨(true), (y820110), (wrap64 (x5_1 + 1)), (by first | rfl | (simp; done) | (simp [*]; done)), (by first | rfl | (simp; done) | (simp [*]; done)), H', ⟨by have := HK1.out; have := HJ4.out; omega⟩, ⟨by (with_reducible repeat (first | apply Kd.R_alloc | apply Kd.R_drewN | apply Kd.R_drew)); exact HO820112.out⟩, ⟨by repeat (first | (with_reducible first | exact HB.out | apply below_alloc | apply pw_below_drewN | apply below_drew1) | exact HB.out)⟩⟩
                      · rw [if_neg c23] at H
                        exact absurd H (by simp)
                    · rw [if_neg c22] at H
                      have c22b0 : ((bt a0 x5_1) == 34) = false := beq_eq_false_iff_ne.mpr c22
                      have c22b1 : ((bt a0 x5_1) != 34) = true := bne_iff_ne.mpr c22
                      have H' := Aside0.mk H
                      clear H
                      have p19 : 0 ≤ (x5_1 : Int) := of_decide_eq_true (by first | (with_reducible assumption) | assumption)
                      have q19 : x5_1 < (a0.size : Int) := of_decide_eq_true (by first | (with_reducible assumption) | assumption)
                      have hx19 := bt_at a0 x5_1
                      replace p19 := eq_true p19
                      replace q19 := eq_true q19
                      go_wp2_with (first | ((with_reducible refine gate_builtin (b := .append) (xs := #[.tmp 41, .tmp 45]) rfl ?_); at_builtin; refine Kd.R_append (Kd.int .u8) (w0 := w) w.heap.size rfl (.tmp 41) (.tmp 45) 37 5 (.int .u8 0) 1 rfl Tryz.underlying37 info5 rfl (by decide) (by omega) u4 x4_1 (bt a0 x5_1) [.int .u8 (bt a0 x5_1)] (fun _ => True) (fun _ => False) rfl rfl ?aP (fun _ hk => hk.elim) ?aF ?aO ?aB ?aS ?aL ?_; (case aP => exact rfl); (case aB => exact (by repeat (first | (with_reducible first | exact HB.out | apply below_alloc | apply pw_below_drewN | apply below_drew1) | exact HB.out))); (case aF => exact (fun _ _ => trivial)); (case aO => exact (by (with_reducible repeat (first | apply Kd.R_alloc | apply Kd.R_drewN | apply Kd.R_drew)); exact HO_4.out)); (case aS => exact (below_size (by repeat (first | (with_reducible first | exact HB.out | apply below_alloc | apply pw_below_drewN | apply below_drew1) | exact HB.out)))); (case aL => have := LMc20.out; omega); intro v820108 w26 ho hb hg hat; rw [← Ny820107.out] at ho; have n0_ := Aside0.mk (hb); have n1_ := Aside0.mk (ho); clear HB; clear HO_4; have HB := n0_; have HO820109 := n1_; clear n0_ n1_; clear ho hb hg hat; have p21 : 0 ≤ (x5_1 : Int) := of_decide_eq_true (by first | (with_reducible assumption) | assumption); have q21 : x5_1 < (a0.size : Int) := of_decide_eq_true (by first | (with_reducible assumption) | assumption); have hx21 := bt_at a0 x5_1; replace p21 := eq_true p21; replace q21 := eq_true q21))
                      go_roundg kj4
                      case measure => have := HK1.out; have := HJ4.out; omega
                      case rel => exact ⟨(true), (y820107), (wrap64 (x5_1 + 1)), (by first | rfl | (simp; done) | (simp [*]; done)), (by first | rfl | (simp; done) | (simp [*]; done)), H', ⟨by have := HK1.out; have := HJ4.out; omega⟩, ⟨by (with_reducible repeat (first | apply Kd.R_alloc | apply Kd.R_drewN | apply Kd.R_drew)); exact HO820109.out⟩, ⟨by repeat (first | (with_reducible first | exact HB.out | apply below_alloc | apply pw_below_drewN | apply below_drew1) | exact HB.out)⟩⟩
                  · rw [if_neg c20] at H
                    exact absurd H (by simp)
                · rw [if_neg c18] at H
                  exact absurd H (by simp)
              · rw [if_neg c17] at H
                exact absurd H (by simp)
            · replace c16 := Bool.eq_false_iff.mpr c16
              subst c16
              have H1 : (if 0 ≤ x5_1 then (if x5_1 < (a0.size : Int) then (if x4_1.length < 140737488355328 then ((some (x4_1 ++ [bt a0 x5_1] : List Int)).bind fun y820113 => (if (bt a0 x5_1) = 34 then (if y820113.length < 140737488355328 then (larderref04_written.l0 kj4 a0 x3_1 (y820113 ++ [34]) (wrap64 (x5_1 + 1))) else (none)) else (larderref04_written.l0 kj4 a0 x3_1 y820113 (wrap64 (x5_1 + 1))))) else (none)) else (none)) else (none)) = some r := by rw [if_neg (show ¬ (false = true) by decide)] at H; exact H
              clear H
              have H := H1
              clear H1
              by_cases c27 : 0 ≤ x5_1
              · rw [if_pos c27] at H
                have c27b0 : decide (0 ≤ x5_1) = true := decide_eq_true c27
                clear c27
                by_cases c28 : x5_1 < (a0.size : Int)
                · rw [if_pos c28] at H
                  have c28b0 : decide (x5_1 < (a0.size : Int)) = true := decide_eq_true c28
                  clear c28
                  by_cases c30 : x4_1.length < 140737488355328
                  · rw [if_pos c30] at H
                    have LMc30 := Aside0.mk c30
                    clear c30
                    obtain ⟨y820113, hy820113⟩ : ∃ y_ : List Int, y_ = (x4_1 ++ [bt a0 x5_1]) := ⟨_, rfl⟩
                    replace H : (if (bt a0 x5_1) = 34 then (if y820113.length < 140737488355328 then (larderref04_written.l0 kj4 a0 x3_1 (y820113 ++ [34]) (wrap64 (x5_1 + 1))) else (none)) else (larderref04_written.l0 kj4 a0 x3_1 y820113 (wrap64 (x5_1 + 1)))) = some r := by first | (rw [hy820113]; with_reducible exact H) | (have H2_ := (Option.bind_some _ _).symm.trans H; rw [hy820113]; with_reducible exact H2_) | (have H2_ := (Option.bind_some _ _).symm.trans H; with_reducible exact H2_) | with_reducible exact H | (rw [hy820113]; exact H) | exact H
                    have Ny820113 := Aside0.mk hy820113
                    clear hy820113
                    by_cases c32 : (bt a0 x5_1) = 34
                    · rw [if_pos c32] at H
                      have c32b0 : ((bt a0 x5_1) == 34) = true := beq_iff_eq.mpr c32
                      have c32b1 : ((bt a0 x5_1) != 34) = false := bne_eq_false_iff_eq.mpr c32
                      clear c32
                      by_cases c33 : y820113.length < 140737488355328
                      · rw [if_pos c33] at H
                        have LMc33 := Aside0.mk c33
                        clear c33
                        obtain ⟨y820116, hy820116⟩ : ∃ y_ : List Int, y_ = (y820113 ++ [34]) := ⟨_, rfl⟩
                        replace H : (larderref04_written.l0 kj4 a0 x3_1 y820116 (wrap64 (x5_1 + 1))) = some r := by first | (rw [hy820116]; with_reducible exact H) | (have H2_ := (Option.bind_some _ _).symm.trans H; rw [hy820116]; with_reducible exact H2_) | (have H2_ := (Option.bind_some _ _).symm.trans H; with_reducible exact H2_) | with_reducible exact H | (rw [hy820116]; exact H) | exact H
                        have Ny820116 := Aside0.mk hy820116
                        clear hy820116
                        have H' := Aside0.mk H
                        clear H
                        have p29 : 0 ≤ (x5_1 : Int) := of_decide_eq_true (by first | (with_reducible assumption) | assumption)
                        have q29 : x5_1 < (a0.size : Int) := of_decide_eq_true (by first | (with_reducible assumption) | assumption)
                        have hx29 := bt_at a0 x5_1
                        replace p29 := eq_true p29
                        replace q29 := eq_true q29
                        go_wp2_with (first | ((with_reducible refine gate_builtin (b := .append) (xs := #[.tmp 41, .tmp 45]) rfl ?_); at_builtin; refine Kd.R_append (Kd.int .u8) (w0 := w) w.heap.size rfl (.tmp 41) (.tmp 45) 37 5 (.int .u8 0) 1 rfl Tryz.underlying37 info5 rfl (by decide) (by omega) u4 x4_1 (bt a0 x5_1) [.int .u8 (bt a0 x5_1)] (fun _ => True) (fun _ => False) rfl rfl ?aP (fun _ hk => hk.elim) ?aF ?aO ?aB ?aS ?aL ?_; (case aP => exact rfl); (case aB => exact (by repeat (first | (with_reducible first | exact HB.out | apply below_alloc | apply pw_below_drewN | apply below_drew1) | exact HB.out))); (case aF => exact (fun _ _ => trivial)); (case aO => exact (by (with_reducible repeat (first | apply Kd.R_alloc | apply Kd.R_drewN | apply Kd.R_drew)); exact HO_4.out)); (case aS => exact (below_size (by repeat (first | (with_reducible first | exact HB.out | apply below_alloc | apply pw_below_drewN | apply below_drew1) | exact HB.out)))); (case aL => have := LMc30.out; omega); intro v820114 w34 ho hb hg hat; rw [← Ny820113.out] at ho; have n0_ := Aside0.mk (hb); have n1_ := Aside0.mk (ho); clear HB; clear HO_4; have HB := n0_; have HO820115 := n1_; clear n0_ n1_; clear ho hb hg hat; have p31 : 0 ≤ (x5_1 : Int) := of_decide_eq_true (by first | (with_reducible assumption) | assumption); have q31 : x5_1 < (a0.size : Int) := of_decide_eq_true (by first | (with_reducible assumption) | assumption); have hx31 := bt_at a0 x5_1; replace p31 := eq_true p31; replace q31 := eq_true q31) | ((with_reducible refine gate_builtin (b := .append) (xs := #[.tmp 51, .tmp 52]) rfl ?_); at_builtin; refine Kd.R_append (Kd.int .u8) (w0 := w) w.heap.size rfl (.tmp 51) (.tmp 52) 37 5 (.int .u8 0) 1 rfl Tryz.underlying37 info5 rfl (by decide) (by omega) v820114 y820113 34 [.int .u8 34] (fun _ => True) (fun _ => False) rfl rfl ?aP (fun _ hk => hk.elim) ?aF ?aO ?aB ?aS ?aL ?_; (case aP => exact rfl); (case aB => exact (by repeat (first | (with_reducible first | exact HB.out | apply below_alloc | apply pw_below_drewN | apply below_drew1) | exact HB.out))); (case aF => exact (fun _ _ => trivial)); (case aO => exact (by (with_reducible repeat (first | apply Kd.R_alloc | apply Kd.R_drewN | apply Kd.R_drew)); exact HO820115.out)); (case aS => exact (below_size (by repeat (first | (with_reducible first | exact HB.out | apply below_alloc | apply pw_below_drewN | apply below_drew1) | exact HB.out)))); (case aL => have := LMc33.out; omega); intro v820117 w35 ho hb hg hat; rw [← Ny820116.out] at ho; have n0_ := Aside0.mk (hb); have n1_ := Aside0.mk (ho); clear HB; clear HO820115; have HB := n0_; have HO820118 := n1_; clear n0_ n1_; clear ho hb hg hat))
                        go_roundg kj4
                        case measure => have := HK1.out; have := HJ4.out; omega
                        case rel => exact ⟨(x3_1), (y820116), (wrap64 (x5_1 + 1)), (by first | rfl | (simp; done) | (simp [*]; done)), (by first | rfl | (simp; done) | (simp [*]; done)), H', ⟨by have := HK1.out; have := HJ4.out; omega⟩, ⟨by (with_reducible repeat (first | apply Kd.R_alloc | apply Kd.R_drewN | apply Kd.R_drew)); exact HO820118.out⟩, ⟨by repeat (first | (with_reducible first | exact HB.out | apply below_alloc | apply pw_below_drewN | apply below_drew1) | exact HB.out)⟩⟩
                      · rw [if_neg c33] at H
                        exact absurd H (by simp)
                    · rw [if_neg c32] at H
                      have c32b0 : ((bt a0 x5_1) == 34) = false := beq_eq_false_iff_ne.mpr c32
                      have c32b1 : ((bt a0 x5_1) != 34) = true := bne_iff_ne.mpr c32
                      have H' := Aside0.mk H
                      clear H
                      have p29 : 0 ≤ (x5_1 : Int) := of_decide_eq_true (by first | (with_reducible assumption) | assumption)
                      have q29 : x5_1 < (a0.size : Int) := of_decide_eq_true (by first | (with_reducible assumption) | assumption)
                      have hx29 := bt_at a0 x5_1
                      replace p29 := eq_true p29
                      replace q29 := eq_true q29
                      go_wp2_with (first | ((with_reducible refine gate_builtin (b := .append) (xs := #[.tmp 41, .tmp 45]) rfl ?_); at_builtin; refine Kd.R_append (Kd.int .u8) (w0 := w) w.heap.size rfl (.tmp 41) (.tmp 45) 37 5 (.int .u8 0) 1 rfl Tryz.underlying37 info5 rfl (by decide) (by omega) u4 x4_1 (bt a0 x5_1) [.int .u8 (bt a0 x5_1)] (fun _ => True) (fun _ => False) rfl rfl ?aP (fun _ hk => hk.elim) ?aF ?aO ?aB ?aS ?aL ?_; (case aP => exact rfl); (case aB => exact (by repeat (first | (with_reducible first | exact HB.out | apply below_alloc | apply pw_below_drewN | apply below_drew1) | exact HB.out))); (case aF => exact (fun _ _ => trivial)); (case aO => exact (by (with_reducible repeat (first | apply Kd.R_alloc | apply Kd.R_drewN | apply Kd.R_drew)); exact HO_4.out)); (case aS => exact (below_size (by repeat (first | (with_reducible first | exact HB.out | apply below_alloc | apply pw_below_drewN | apply below_drew1) | exact HB.out)))); (case aL => have := LMc30.out; omega); intro v820114 w36 ho hb hg hat; rw [← Ny820113.out] at ho; have n0_ := Aside0.mk (hb); have n1_ := Aside0.mk (ho); clear HB; clear HO_4; have HB := n0_; have HO820115 := n1_; clear n0_ n1_; clear ho hb hg hat; have p31 : 0 ≤ (x5_1 : Int) := of_decide_eq_true (by first | (with_reducible assumption) | assumption); have q31 : x5_1 < (a0.size : Int) := of_decide_eq_true (by first | (with_reducible assumption) | assumption); have hx31 := bt_at a0 x5_1; replace p31 := eq_true p31; replace q31 := eq_true q31))
                      go_roundg kj4
                      case measure => have := HK1.out; have := HJ4.out; omega
                      case rel => exact ⟨(x3_1), (y820113), (wrap64 (x5_1 + 1)), (by first | rfl | (simp; done) | (simp [*]; done)), (by first | rfl | (simp; done) | (simp [*]; done)), H', ⟨by have := HK1.out; have := HJ4.out; omega⟩, ⟨by (with_reducible repeat (first | apply Kd.R_alloc | apply Kd.R_drewN | apply Kd.R_drew)); exact HO820115.out⟩, ⟨by repeat (first | (with_reducible first | exact HB.out | apply below_alloc | apply pw_below_drewN | apply below_drew1) | exact HB.out)⟩⟩
                  · rw [if_neg c30] at H
                    exact absurd H (by simp)
                · rw [if_neg c28] at H
                  exact absurd H (by simp)
              · rw [if_neg c27] at H
                exact absurd H (by simp)
      · rw [if_neg c4] at H
        have c4b0 : decide (x5_1 < (a0.size : Int)) = false := decide_eq_false c4
        clear c4
        by_cases c37 : x3_1 = true
        · subst c37
          have H1 : (if x4_1.length < 140737488355328 then (some (strOfNums (x4_1 ++ [34]))) else (none)) = some r := by rw [if_pos rfl] at H; exact H
          clear H
          have H := H1
          clear H1
          by_cases c38 : x4_1.length < 140737488355328
          · rw [if_pos c38] at H
            have LMc38 := Aside0.mk c38
            clear c38
            obtain ⟨y820104, hy820104⟩ : ∃ y_ : List Int, y_ = (x4_1 ++ [34]) := ⟨_, rfl⟩
            replace H : (some (strOfNums y820104)) = some r := by first | (rw [hy820104]; with_reducible exact H) | (have H2_ := (Option.bind_some _ _).symm.trans H; rw [hy820104]; with_reducible exact H2_) | (have H2_ := (Option.bind_some _ _).symm.trans H; with_reducible exact H2_) | with_reducible exact H | (rw [hy820104]; exact H) | exact H
            have Ny820104 := Aside0.mk hy820104
            clear hy820104
            obtain rfl := Option.some.inj H
            go_wp2_with (first | ((with_reducible refine gate_builtin (b := .append) (xs := #[.tmp 55, .tmp 56]) rfl ?_); at_builtin; refine Kd.R_append (Kd.int .u8) (w0 := w) w.heap.size rfl (.tmp 55) (.tmp 56) 37 5 (.int .u8 0) 1 rfl Tryz.underlying37 info5 rfl (by decide) (by omega) u4 x4_1 34 [.int .u8 34] (fun _ => True) (fun _ => False) rfl rfl ?aP (fun _ hk => hk.elim) ?aF ?aO ?aB ?aS ?aL ?_; (case aP => exact rfl); (case aB => exact (by repeat (first | (with_reducible first | exact HB.out | apply below_alloc | apply pw_below_drewN | apply below_drew1) | exact HB.out))); (case aF => exact (fun _ _ => trivial)); (case aO => exact (by (with_reducible repeat (first | apply Kd.R_alloc | apply Kd.R_drewN | apply Kd.R_drew)); exact HO_4.out)); (case aS => exact (below_size (by repeat (first | (with_reducible first | exact HB.out | apply below_alloc | apply pw_below_drewN | apply below_drew1) | exact HB.out)))); (case aL => have := LMc38.out; omega); intro v820105 w39 ho hb hg hat; rw [← Ny820104.out] at ho; have n0_ := Aside0.mk (hb); have n1_ := Aside0.mk (ho); clear HB; clear HO_4; have HB := n0_; have HO820106 := n1_; clear n0_ n1_; clear ho hb hg hat; have hcv40 := own_string (P := Tryz.prog) Tryz.underlying37 Tryz.underlying5 Tryz.underlying9 (Kd.own_of_R HO820106.out)))
            go_ret
            exact ⟨by first | rfl | (simp [errW_none, errW_some] <;> rfl) | (simp [*, errW_none, errW_some] <;> rfl), by repeat (first | (with_reducible first | exact HB.out | apply below_alloc | apply pw_below_drewN | apply below_drew1) | exact HB.out)⟩
          · rw [if_neg c38] at H
            exact absurd H (by simp)
        · replace c37 := Bool.eq_false_iff.mpr c37
          subst c37
          have H1 : (some a0) = some r := by rw [if_neg (show ¬ (false = true) by decide)] at H; exact H
          clear H
          have H := H1
          clear H1
          obtain rfl := Option.some.inj H
          go_wp2
          go_ret
          exact ⟨by first | rfl | (simp [errW_none, errW_some] <;> rfl) | (simp [*, errW_none, errW_some] <;> rfl), by repeat (first | (with_reducible first | exact HB.out | apply below_alloc | apply pw_below_drewN | apply below_drew1) | exact HB.out)⟩

end Go.Proofs.YtappphffbnkloaaGreatDoor.GS
namespace Go.Proofs.YtappphffbnkloaaGreatDoor.GS
open Go.RowKit Go.Proofs.YtappphffbnkloaaGreatDoorW.PrintWords Go.Proofs.YtappphffbnkloaaGreatDoorW.PrintLast Go.Proofs.YtappphffbnkloaaGreatDoor.Ext
attribute [local go_sem] max2_int min2_int max_two min_two   -- for this text alone
set_option linter.unusedVariables false
set_option linter.unusedSimpArgs false

/-! ### larderref04_text: function 59 -/
mutual
def larderref04_text.l0 : Nat → List (List ByteArray) → List Int → Int → Option (List Int)
  | 0, _, _, _ => none
  | k + 1, x0, x3, x4 => if x4 < (x0.length : Int) then (larderref04_text.j1 k x0 x3 x4 (decide ((x3.length : Int) ≤ 262144))) else (larderref04_text.j1 k x0 x3 x4 false)
def larderref04_text.j1 : Nat → List (List ByteArray) → List Int → Int → Bool → Option (List Int)
  | 0, _, _, _, _ => none
  | k + 1, x0, x3, x4, x14 => if x14 = true then (larderref04_text.l1 k x0 x3 x4 0) else (some x3)
def larderref04_text.l1 : Nat → List (List ByteArray) → List Int → Int → Int → Option (List Int)
  | 0, _, _, _, _ => none
  | k + 1, x0, x3, x4, x5 => if 0 ≤ x4 then (if x4 < (x0.length : Int) then (if x5 < ((rd_L2 x0 x4).length : Int) then (larderref04_text.j3 k x0 x3 x4 x5 (decide ((x3.length : Int) ≤ 262144))) else (larderref04_text.j3 k x0 x3 x4 x5 false)) else (none)) else (none)
def larderref04_text.j3 : Nat → List (List ByteArray) → List Int → Int → Int → Bool → Option (List Int)
  | 0, _, _, _, _, _ => none
  | k + 1, x0, x3, x4, x5, x28 => if x28 = true then (if x5 > 0 then (if x3.length < 140737488355328 then ((some (x3 ++ [44] : List Int)).bind fun y590102 => (if 0 ≤ x4 then (if x4 < (x0.length : Int) then (if 0 ≤ x5 then (if x5 < ((rd_L2 x0 x4).length : Int) then ((larderref04_written.f k (rdOf ByteArray.empty (rd_L2 x0 x4) x5)).bind fun t590107 => (if y590102.length + t590107.size < 140737488355328 then (larderref04_text.l1 k x0 (y590102 ++ bytesOf t590107) x4 (wrap64 (x5 + 1))) else (none))) else (none)) else (none)) else (none)) else (none))) else (none)) else (if 0 ≤ x4 then (if x4 < (x0.length : Int) then (if 0 ≤ x5 then (if x5 < ((rd_L2 x0 x4).length : Int) then ((larderref04_written.f k (rdOf ByteArray.empty (rd_L2 x0 x4) x5)).bind fun t590113 => (if x3.length + t590113.size < 140737488355328 then (larderref04_text.l1 k x0 (x3 ++ bytesOf t590113) x4 (wrap64 (x5 + 1))) else (none))) else (none)) else (none)) else (none)) else (none))) else ((some (([13, 10] : List Int) : List Int)).bind fun y590117 => (if x3.length + y590117.length < 140737488355328 then (larderref04_text.l0 k x0 (x3 ++ y590117) (wrap64 (x4 + 1))) else (none)))
end
def larderref04_text.f (k : Nat) (l0 : List (List ByteArray)) : Option (List Int) := larderref04_text.l0 k l0 ([] : List Int) 0
theorem larderref04_text.mono_l : ∀ k, (∀ y0 y1 y2, LeO (larderref04_text.l0 k y0 y1 y2) (larderref04_text.l0 (k + 1) y0 y1 y2)) ∧ (∀ y0 y1 y2 y3, LeO (larderref04_text.j1 k y0 y1 y2 y3) (larderref04_text.j1 (k + 1) y0 y1 y2 y3)) ∧ (∀ y0 y1 y2 y3, LeO (larderref04_text.l1 k y0 y1 y2 y3) (larderref04_text.l1 (k + 1) y0 y1 y2 y3)) ∧ (∀ y0 y1 y2 y3 y4, LeO (larderref04_text.j3 k y0 y1 y2 y3 y4) (larderref04_text.j3 (k + 1) y0 y1 y2 y3 y4))
  | 0 => ⟨fun _ _ _ r h => by simp [larderref04_text.l0] at h, fun _ _ _ _ r h => by simp [larderref04_text.j1] at h, fun _ _ _ _ r h => by simp [larderref04_text.l1] at h, fun _ _ _ _ _ r h => by simp [larderref04_text.j3] at h⟩
  | k + 1 => by
    obtain ⟨ih0, ih1, ih2, ih3⟩ := larderref04_text.mono_l k
    refine ⟨?_, ?_, ?_, ?_⟩
    · intro y0 y1 y2
      unfold larderref04_text.l0
      repeat' first
      | (with_reducible exact ih0 _ _ _)
      | (with_reducible exact ih1 _ _ _ _)
      | (with_reducible exact ih2 _ _ _ _)
      | (with_reducible exact ih3 _ _ _ _ _)
      | (with_reducible exact larderref04_written.mono _ _)
      | (with_reducible exact LeO.refl _)
      | (with_reducible exact LeO.none _)
      | (with_reducible refine LeO.ite ?_ ?_)
      | (with_reducible refine LeO.bind ?_ (fun _ => ?_))
      | exact ih0 _ _ _
      | exact ih1 _ _ _ _
      | exact ih2 _ _ _ _
      | exact ih3 _ _ _ _ _
      | exact larderref04_written.mono _ _
      | exact LeO.none _
      | refine LeO.ite ?_ ?_
      | refine LeO.bind ?_ (fun _ => ?_)
    · intro y0 y1 y2 y3
      unfold larderref04_text.j1
      repeat' first
      | (with_reducible exact ih0 _ _ _)
      | (with_reducible exact ih1 _ _ _ _)
      | (with_reducible exact ih2 _ _ _ _)
      | (with_reducible exact ih3 _ _ _ _ _)
      | (with_reducible exact larderref04_written.mono _ _)
      | (with_reducible exact LeO.refl _)
      | (with_reducible exact LeO.none _)
      | (with_reducible refine LeO.ite ?_ ?_)
      | (with_reducible refine LeO.bind ?_ (fun _ => ?_))
      | exact ih0 _ _ _
      | exact ih1 _ _ _ _
      | exact ih2 _ _ _ _
      | exact ih3 _ _ _ _ _
      | exact larderref04_written.mono _ _
      | exact LeO.none _
      | refine LeO.ite ?_ ?_
      | refine LeO.bind ?_ (fun _ => ?_)
    · intro y0 y1 y2 y3
      unfold larderref04_text.l1
      repeat' first
      | (with_reducible exact ih0 _ _ _)
      | (with_reducible exact ih1 _ _ _ _)
      | (with_reducible exact ih2 _ _ _ _)
      | (with_reducible exact ih3 _ _ _ _ _)
      | (with_reducible exact larderref04_written.mono _ _)
      | (with_reducible exact LeO.refl _)
      | (with_reducible exact LeO.none _)
      | (with_reducible refine LeO.ite ?_ ?_)
      | (with_reducible refine LeO.bind ?_ (fun _ => ?_))
      | exact ih0 _ _ _
      | exact ih1 _ _ _ _
      | exact ih2 _ _ _ _
      | exact ih3 _ _ _ _ _
      | exact larderref04_written.mono _ _
      | exact LeO.none _
      | refine LeO.ite ?_ ?_
      | refine LeO.bind ?_ (fun _ => ?_)
    · intro y0 y1 y2 y3 y4
      unfold larderref04_text.j3
      repeat' first
      | (with_reducible exact ih0 _ _ _)
      | (with_reducible exact ih1 _ _ _ _)
      | (with_reducible exact ih2 _ _ _ _)
      | (with_reducible exact ih3 _ _ _ _ _)
      | (with_reducible exact larderref04_written.mono _ _)
      | (with_reducible exact LeO.refl _)
      | (with_reducible exact LeO.none _)
      | (with_reducible refine LeO.ite ?_ ?_)
      | (with_reducible refine LeO.bind ?_ (fun _ => ?_))
      | exact ih0 _ _ _
      | exact ih1 _ _ _ _
      | exact ih2 _ _ _ _
      | exact ih3 _ _ _ _ _
      | exact larderref04_written.mono _ _
      | exact LeO.none _
      | refine LeO.ite ?_ ?_
      | refine LeO.bind ?_ (fun _ => ?_)
theorem larderref04_text.mono : ∀ a0 k, LeO (larderref04_text.f k a0) (larderref04_text.f (k + 1) a0) := by
  intro a0 k
  obtain ⟨ih0, ih1, ih2, ih3⟩ := larderref04_text.mono_l k
  unfold larderref04_text.f
  repeat' first
      | (with_reducible exact ih0 _ _ _)
      | (with_reducible exact ih1 _ _ _ _)
      | (with_reducible exact ih2 _ _ _ _)
      | (with_reducible exact ih3 _ _ _ _ _)
      | (with_reducible exact larderref04_written.mono _ _)
      | (with_reducible exact LeO.refl _)
      | (with_reducible exact LeO.none _)
      | (with_reducible refine LeO.ite ?_ ?_)
      | (with_reducible refine LeO.bind ?_ (fun _ => ?_))
      | exact ih0 _ _ _
      | exact ih1 _ _ _ _
      | exact ih2 _ _ _ _
      | exact ih3 _ _ _ _ _
      | exact larderref04_written.mono _ _
      | exact LeO.none _
      | refine LeO.ite ?_ ?_
      | refine LeO.bind ?_ (fun _ => ?_)
set_option maxHeartbeats 8000000 in
set_option maxRecDepth 100000 in
theorem larderref04_text.calls (k : Nat) (A0 : Option Addr) (c0 : Nat) (l0 : List (List ByteArray)) (r : List Int) (w : World) (hr0 : Kd.C (Kd.slice 9 Kd.string) w A0 l0.length l0) (hc0 : l0.length ≤ c0) (h : larderref04_text.f k l0 = some r) :
    Calls Tryz.prog 59 #[.slice A0 l0.length c0] w fun e w' => ∃ v0_ : Value, e = .returned (v0_) ∧ Kd.R (Kd.int .u8) 5 w' w.heap.size (fun _ => True) v0_ r ∧ Below w.heap.size w w' := by
  have HR0 := Aside0.mk hr0
  have HC0 := Aside0.mk hc0
  clear hr0 hc0
  have HB := Aside0.mk (Below.refl w.heap.size w)
  have H : (larderref04_text.l0 k l0 ([] : List Int) 0) = some r := h
  clear h
  have H' := Aside0.mk H
  clear H
  go_enter Tryz.func59, Tryz.ntmps59
  go_wp2
  go_loopg [3, 4] k (fun kq v3 v4 w' => ∃ (x3_1 : List Int) (x4_1 : Int), v4 = .int .i64 x4_1 ∧ Aside0 (larderref04_text.l0 kq l0 x3_1 x4_1 = some r) ∧ Aside0 (kq ≤ k) ∧ Aside0 (Kd.R (Kd.int .u8) 5 w' w.heap.size (fun _ => True) v3 x3_1) ∧ Aside0 (Below w.heap.size w w'))
  case atStart => exact ⟨(([] : List Int)), (0), (by first | rfl | (simp; done) | (simp [*]; done)), H', ⟨Nat.le_refl _⟩, ⟨by first | exact Kd.R_nil _ _ _ _ _ | exact Kd.N_nil _ _ _ _ _ | exact Kd.V_nil _ _ _ _ _ | exact Kd.Q_nil _ _ _ _ _ | exact Kd.S_nil _ _ _ _ _⟩, ⟨by repeat (first | (with_reducible first | exact HB.out | apply below_alloc | apply pw_below_drewN | apply below_drew1) | exact HB.out)⟩⟩
  case round =>
    clear H'
    obtain ⟨x3_1, x4_1, rfl, HA, HK1, HO_3, HB⟩ := hrel
    cases gk with
    | zero => exact absurd HA.out (by simp [larderref04_text.l0])
    | succ k1 =>
      have H := HA.out
      clear HA
      simp only [larderref04_text.l0] at H
      have HC2 := Aside0.mk H
      clear H
      go_upto_region 3 with (fail)
      go_cut [14] (fun v14 wc => ∃ (kq : Nat) (x14_1 : Bool), v14 = .bool x14_1 ∧ Aside0 (larderref04_text.j1 kq l0 x3_1 x4_1 x14_1 = some r) ∧ Aside0 (kq ≤ k1) ∧ Aside0 (Kd.R (Kd.int .u8) 5 wc w.heap.size (fun _ => True) u3 x3_1) ∧ Aside0 (Below w.heap.size w wc))
      case first =>
        have H := HC2.out
        clear HC2
        by_cases c3 : x4_1 < (l0.length : Int)
        · rw [if_pos c3] at H
          have c3b0 : decide (x4_1 < (l0.length : Int)) = true := decide_eq_true c3
          clear c3
          (first | rw [c3b0] | (simp only [i64_w, i32_w]; rw [c3b0]) | skip)
          have H' := Aside0.mk H
          clear H
          obtain ⟨Ao4, co4, eo4⟩ := Kd.R_slice HO_3.out
          subst eo4
          go_wp2
          go_meet
          case rel => exact ⟨_, (decide ((x3_1.length : Int) ≤ 262144)), (by first | rfl | (simp; done) | (simp [*]; done)), H', ⟨by have := HK1.out; first | omega | exact Nat.le_refl _⟩, ⟨by (with_reducible repeat (first | apply Kd.R_alloc | apply Kd.R_drewN | apply Kd.R_drew)); exact HO_3.out⟩, ⟨by repeat (first | (with_reducible first | exact HB.out | apply below_alloc | apply pw_below_drewN | apply below_drew1) | exact HB.out)⟩⟩
        · rw [if_neg c3] at H
          have c3b0 : decide (x4_1 < (l0.length : Int)) = false := decide_eq_false c3
          clear c3
          (first | rw [c3b0] | (simp only [i64_w, i32_w]; rw [c3b0]) | skip)
          have H' := Aside0.mk H
          clear H
          go_wp2
          go_meet
          case rel => exact ⟨_, (false), (by first | rfl | (simp; done) | (simp [*]; done)), H', ⟨by have := HK1.out; first | omega | exact Nat.le_refl _⟩, ⟨by (with_reducible repeat (first | apply Kd.R_alloc | apply Kd.R_drewN | apply Kd.R_drew)); exact HO_3.out⟩, ⟨by repeat (first | (with_reducible first | exact HB.out | apply below_alloc | apply pw_below_drewN | apply below_drew1) | exact HB.out)⟩⟩
      case rest =>
        clear HC2
        try clear p2
        try clear c3
        try clear c3b0
        obtain ⟨kq, x14_1, rfl, HA, HJ1, HO_3, HB⟩ := hcut
        cases kq with
        | zero => exact absurd HA.out (by simp [larderref04_text.j1])
        | succ kj1 =>
          have H := HA.out
          clear HA
          simp only [larderref04_text.j1] at H
          by_cases c5 : x14_1 = true
          · subst c5
            have H1 : (larderref04_text.l1 kj1 l0 x3_1 x4_1 0) = some r := by rw [if_pos rfl] at H; exact H
            clear H
            have H := H1
            clear H1
            have H' := Aside0.mk H
            clear H
            go_wp2
            go_loopg [3, 5] kj1 (fun kq v3 v5 w' => ∃ (x3_3 : List Int) (x5_3 : Int), v5 = .int .i64 x5_3 ∧ Aside0 (larderref04_text.l1 kq l0 x3_3 x4_1 x5_3 = some r) ∧ Aside0 (kq ≤ kj1) ∧ Aside0 (Kd.R (Kd.int .u8) 5 w' w.heap.size (fun _ => True) v3 x3_3) ∧ Aside0 (Below w.heap.size w w'))
            case atStart => exact ⟨(x3_1), (0), (by first | rfl | (simp; done) | (simp [*]; done)), H', ⟨Nat.le_refl _⟩, ⟨by (with_reducible repeat (first | apply Kd.R_alloc | apply Kd.R_drewN | apply Kd.R_drew)); exact HO_3.out⟩, ⟨by repeat (first | (with_reducible first | exact HB.out | apply below_alloc | apply pw_below_drewN | apply below_drew1) | exact HB.out)⟩⟩
            case round =>
              clear H'
              try clear p2
              try clear c3
              try clear c3b0
              try clear c5
              try clear p2
              obtain ⟨x3_3, x5_3, rfl, HA, HK3, HO_3, HB⟩ := hrel
              cases gk with
              | zero => exact absurd HA.out (by simp [larderref04_text.l1])
              | succ k3 =>
                have H := HA.out
                clear HA
                simp only [larderref04_text.l1] at H
                have HC6 := Aside0.mk H
                clear H
                go_upto_region 6 with (fail)
                go_cut [28] (fun v28 wc => ∃ (kq : Nat) (x28_5 : Bool), v28 = .bool x28_5 ∧ Aside0 (larderref04_text.j3 kq l0 x3_3 x4_1 x5_3 x28_5 = some r) ∧ Aside0 (kq ≤ k3) ∧ Aside0 (Kd.R (Kd.int .u8) 5 wc w.heap.size (fun _ => True) u3 x3_3) ∧ Aside0 (Below w.heap.size w wc))
                case first =>
                  have H := HC6.out
                  clear HC6
                  by_cases c7 : 0 ≤ x4_1
                  · rw [if_pos c7] at H
                    have c7b0 : decide (0 ≤ x4_1) = true := decide_eq_true c7
                    clear c7
                    (first | rw [c7b0] | (simp only [i64_w, i32_w]; rw [c7b0]) | skip)
                    by_cases c8 : x4_1 < (l0.length : Int)
                    · rw [if_pos c8] at H
                      have c8b0 : decide (x4_1 < (l0.length : Int)) = true := decide_eq_true c8
                      clear c8
                      by_cases c9 : x5_3 < ((rd_L2 l0 x4_1).length : Int)
                      · rw [if_pos c9] at H
                        have c9b0 : decide (x5_3 < ((rd_L2 l0 x4_1).length : Int)) = true := decide_eq_true c9
                        clear c9
                        have H' := Aside0.mk H
                        clear H
                        have p590101 : 0 ≤ (x4_1 : Int) := of_decide_eq_true (by first | (with_reducible assumption) | assumption)
                        have q590101 : x4_1 < (l0.length : Int) := of_decide_eq_true (by first | (with_reducible assumption) | assumption)
                        obtain ⟨ad590101, A590101_0, c590101_0, e590101, hx590101_0, hl590101_0, hi590101_0⟩ := at_L2 HR0.out x4_1 p590101 q590101
                        cases e590101
                        replace hx590101_0 := (HB.out.cell (World.block_lt_of_cell? w _ hx590101_0)).trans hx590101_0
                        have HR590101_0 := Aside0.mk hi590101_0
                        have HC590101_0 := Aside0.mk hl590101_0
                        clear hi590101_0 hl590101_0
                        replace p590101 := eq_true p590101
                        replace q590101 := eq_true q590101
                        obtain ⟨Ao10, co10, eo10⟩ := Kd.R_slice HO_3.out
                        subst eo10
                        go_wp2
                        go_meet
                        case rel => exact ⟨_, (decide ((x3_3.length : Int) ≤ 262144)), (by first | rfl | (simp; done) | (simp [*]; done)), H', ⟨by have := HK1.out; have := HJ1.out; have := HK3.out; first | omega | exact Nat.le_refl _⟩, ⟨by (with_reducible repeat (first | apply Kd.R_alloc | apply Kd.R_drewN | apply Kd.R_drew)); exact HO_3.out⟩, ⟨by repeat (first | (with_reducible first | exact HB.out | apply below_alloc | apply pw_below_drewN | apply below_drew1) | exact HB.out)⟩⟩
                      · rw [if_neg c9] at H
                        have c9b0 : decide (x5_3 < ((rd_L2 l0 x4_1).length : Int)) = false := decide_eq_false c9
                        clear c9
                        have H' := Aside0.mk H
                        clear H
                        have p590101 : 0 ≤ (x4_1 : Int) := of_decide_eq_true (by first | (with_reducible assumption) | assumption)
                        have q590101 : x4_1 < (l0.length : Int) := of_decide_eq_true (by first | (with_reducible assumption) | assumption)
                        obtain ⟨ad590101, A590101_0, c590101_0, e590101, hx590101_0, hl590101_0, hi590101_0⟩ := at_L2 HR0.out x4_1 p590101 q590101
                        cases e590101
                        replace hx590101_0 := (HB.out.cell (World.block_lt_of_cell? w _ hx590101_0)).trans hx590101_0
                        have HR590101_0 := Aside0.mk hi590101_0
                        have HC590101_0 := Aside0.mk hl590101_0
                        clear hi590101_0 hl590101_0
                        replace p590101 := eq_true p590101
                        replace q590101 := eq_true q590101
                        go_wp2
                        go_meet
                        case rel => exact ⟨_, (false), (by first | rfl | (simp; done) | (simp [*]; done)), H', ⟨by have := HK1.out; have := HJ1.out; have := HK3.out; first | omega | exact Nat.le_refl _⟩, ⟨by (with_reducible repeat (first | apply Kd.R_alloc | apply Kd.R_drewN | apply Kd.R_drew)); exact HO_3.out⟩, ⟨by repeat (first | (with_reducible first | exact HB.out | apply below_alloc | apply pw_below_drewN | apply below_drew1) | exact HB.out)⟩⟩
                    · rw [if_neg c8] at H
                      exact absurd H (by simp)
                  · rw [if_neg c7] at H
                    exact absurd H (by simp)
                case rest =>
                  clear HC6
                  try clear p2
                  try clear c3
                  try clear c3b0
                  try clear c5
                  try clear p5
                  try clear q5
                  try clear hx5
                  try clear c7
                  try clear c7b0
                  try clear c8
                  try clear c8b0
                  try clear c9
                  try clear c9b0
                  try clear hx590101_0
                  try clear p2
                  try clear p590101
                  try clear q590101
                  obtain ⟨kq, x28_5, rfl, HA, HJ5, HO_3, HB⟩ := hcut
                  cases kq with
                  | zero => exact absurd HA.out (by simp [larderref04_text.j3])
                  | succ kj5 =>
                    have H := HA.out
                    clear HA
                    simp only [larderref04_text.j3] at H
                    by_cases c11 : x28_5 = true
                    · subst c11
                      have H1 : (if x5_3 > 0 then (if x3_3.length < 140737488355328 then ((some (x3_3 ++ [44] : List Int)).bind fun y590102 => (if 0 ≤ x4_1 then (if x4_1 < (l0.length : Int) then (if 0 ≤ x5_3 then (if x5_3 < ((rd_L2 l0 x4_1).length : Int) then ((larderref04_written.f kj5 (rdOf ByteArray.empty (rd_L2 l0 x4_1) x5_3)).bind fun t590107 => (if y590102.length + t590107.size < 140737488355328 then (larderref04_text.l1 kj5 l0 (y590102 ++ bytesOf t590107) x4_1 (wrap64 (x5_3 + 1))) else (none))) else (none)) else (none)) else (none)) else (none))) else (none)) else (if 0 ≤ x4_1 then (if x4_1 < (l0.length : Int) then (if 0 ≤ x5_3 then (if x5_3 < ((rd_L2 l0 x4_1).length : Int) then ((larderref04_written.f kj5 (rdOf ByteArray.empty (rd_L2 l0 x4_1) x5_3)).bind fun t590113 => (if x3_3.length + t590113.size < 140737488355328 then (larderref04_text.l1 kj5 l0 (x3_3 ++ bytesOf t590113) x4_1 (wrap64 (x5_3 + 1))) else (none))) else (none)) else (none)) else (none)) else (none))) = some r := by rw [if_pos rfl] at H; exact H
                      clear H
                      have H := H1
                      clear H1
                      by_cases c12 : x5_3 > 0
                      · rw [if_pos c12] at H
                        have c12b0 : decide (0 < x5_3) = true := decide_eq_true c12
                        clear c12
                        by_cases c13 : x3_3.length < 140737488355328
                        · rw [if_pos c13] at H
                          have LMc13 := Aside0.mk c13
                          clear c13
                          obtain ⟨y590102, hy590102⟩ : ∃ y_ : List Int, y_ = (x3_3 ++ [44]) := ⟨_, rfl⟩
                          replace H : (if 0 ≤ x4_1 then (if x4_1 < (l0.length : Int) then (if 0 ≤ x5_3 then (if x5_3 < ((rd_L2 l0 x4_1).length : Int) then ((larderref04_written.f kj5 (rdOf ByteArray.empty (rd_L2 l0 x4_1) x5_3)).bind fun t590107 => (if y590102.length + t590107.size < 140737488355328 then (larderref04_text.l1 kj5 l0 (y590102 ++ bytesOf t590107) x4_1 (wrap64 (x5_3 + 1))) else (none))) else (none)) else (none)) else (none)) else (none)) = some r := by first | (rw [hy590102]; with_reducible exact H) | (have H2_ := (Option.bind_some _ _).symm.trans H; rw [hy590102]; with_reducible exact H2_) | (have H2_ := (Option.bind_some _ _).symm.trans H; with_reducible exact H2_) | with_reducible exact H | (rw [hy590102]; exact H) | exact H
                          have Ny590102 := Aside0.mk hy590102
                          clear hy590102
                          by_cases c14 : 0 ≤ x4_1
                          · rw [if_pos c14] at H
                            have c14b0 : decide (0 ≤ x4_1) = true := decide_eq_true c14
                            clear c14
                            by_cases c15 : x4_1 < (l0.length : Int)
                            · rw [if_pos c15] at H
                              have c15b0 : decide (x4_1 < (l0.length : Int)) = true := decide_eq_true c15
                              clear c15
                              by_cases c16 : 0 ≤ x5_3
                              · rw [if_pos c16] at H
                                have c16b0 : decide (0 ≤ x5_3) = true := decide_eq_true c16
                                clear c16
                                by_cases c17 : x5_3 < ((rd_L2 l0 x4_1).length : Int)
                                · rw [if_pos c17] at H
                                  have c17b0 : decide (x5_3 < ((rd_L2 l0 x4_1).length : Int)) = true := decide_eq_true c17
                                  clear c17
                                  replace H := Option.bind_eq_some_iff.mp H
                                  obtain ⟨t590107, A180, H⟩ := H
                                  replace H : (if y590102.length + t590107.size < 140737488355328 then (larderref04_text.l1 kj5 l0 (y590102 ++ bytesOf t590107) x4_1 (wrap64 (x5_3 + 1))) else (none)) = some r := H
                                  have A18 := Aside0.mk A180
                                  clear A180
                                  by_cases c19 : y590102.length + t590107.size < 140737488355328
                                  · rw [if_pos c19] at H
                                    have LMc19 := Aside0.mk c19
                                    clear c19
                                    obtain ⟨y590108, hy590108⟩ : ∃ y_ : List Int, y_ = (y590102 ++ bytesOf t590107) := ⟨_, rfl⟩
                                    replace H : (larderref04_text.l1 kj5 l0 y590108 x4_1 (wrap64 (x5_3 + 1))) = some r := by first | (rw [hy590108]; with_reducible exact H) | (have H2_ := (Option.bind_some _ _).symm.trans H; rw [hy590108]; with_reducible exact H2_) | (have H2_ := (Option.bind_some _ _).symm.trans H; with_reducible exact H2_) | with_reducible exact H | (rw [hy590108]; exact H) | exact H
                                    have Ny590108 := Aside0.mk hy590108
                                    clear hy590108
                                    have H' := Aside0.mk H
                                    clear H
                                    go_wp2_with (first | ((with_reducible refine gate_builtin (b := .append) (xs := #[.tmp 33, .tmp 34]) rfl ?_); at_builtin; refine Kd.R_append (Kd.int .u8) (w0 := w) w.heap.size rfl (.tmp 33) (.tmp 34) 37 5 (.int .u8 0) 1 rfl Tryz.underlying37 info5 rfl (by decide) (by omega) u3 x3_3 44 [.int .u8 44] (fun _ => True) (fun _ => False) rfl rfl ?aP (fun _ hk => hk.elim) ?aF ?aO ?aB ?aS ?aL ?_; (case aP => exact rfl); (case aB => exact (by repeat (first | (with_reducible first | exact HB.out | apply below_alloc | apply pw_below_drewN | apply below_drew1) | exact HB.out))); (case aF => exact (fun _ _ => trivial)); (case aO => exact (by (with_reducible repeat (first | apply Kd.R_alloc | apply Kd.R_drewN | apply Kd.R_drew)); exact HO_3.out)); (case aS => exact (below_size (by repeat (first | (with_reducible first | exact HB.out | apply below_alloc | apply pw_below_drewN | apply below_drew1) | exact HB.out)))); (case aL => have := LMc13.out; omega); intro v590103 w20 ho hb hg hat; rw [← Ny590102.out] at ho; have n0_ := Aside0.mk (hb); have n1_ := Aside0.mk (ho); clear HB; clear HO_3; have HB := n0_; have HO590104 := n1_; clear n0_ n1_; clear ho hb hg hat; have p590105 : 0 ≤ (x4_1 : Int) := of_decide_eq_true (by first | (with_reducible assumption) | assumption); have q590105 : x4_1 < (l0.length : Int) := of_decide_eq_true (by first | (with_reducible assumption) | assumption); obtain ⟨ad590105, A590105_0, c590105_0, e590105, hx590105_0, hl590105_0, hi590105_0⟩ := at_L2 HR0.out x4_1 p590105 q590105; cases e590105; replace hx590105_0 := (HB.out.cell (World.block_lt_of_cell? w _ hx590105_0)).trans hx590105_0; have HR590105_0 := Aside0.mk hi590105_0; have HC590105_0 := Aside0.mk hl590105_0; clear hi590105_0 hl590105_0; replace p590105 := eq_true p590105; replace q590105 := eq_true q590105; have p590106 : 0 ≤ (x5_3 : Int) := of_decide_eq_true (by first | (with_reducible assumption) | assumption); have q590106 : x5_3 < ((rd_L2 l0 x4_1).length : Int) := of_decide_eq_true (by first | (with_reducible assumption) | assumption); obtain ⟨ad590106, e590106, hx590106_0⟩ := Kd.at_string HR590105_0.out x5_3 p590106 q590106; cases e590106; replace hx590106_0 := (HB.out.cell (World.block_lt_of_cell? w _ hx590106_0)).trans hx590106_0; replace p590106 := eq_true p590106; replace q590106 := eq_true q590106) | ((with_reducible refine gate_callee (f := 82) rfl ?_); refine goesL_ (some 44) rfl rfl Tryz.func82 (by kernel_rfl) rfl #[.string (rdOf ByteArray.empty (rd_L2 l0 x4_1) x5_3)] rfl (by (try simp only [List.map_toArray, List.map_cons, List.map_nil]); first | done | rfl | (simp only [List.length_drop, List.length_take]; rfl)) ?_; (with_reducible refine (larderref04_written.calls kj5 (rdOf ByteArray.empty (rd_L2 l0 x4_1) x5_3) t590107 _ A18.out).mono ?_); rintro e w21 ⟨rfl, hb⟩; refine ⟨_, rfl, ?_⟩; have n0_ := Aside0.mk (Kd.R_below (by (with_reducible repeat (first | apply Kd.R_alloc | apply Kd.R_drewN | apply Kd.R_drew)); exact HO590104.out) hb); have n1_ := Aside0.mk (below_step (by repeat (first | (with_reducible first | exact HB.out | apply below_alloc | apply pw_below_drewN | apply below_drew1) | exact HB.out)) hb); clear HO590104; clear HB; have HO590104 := n0_; have HB := n1_; clear n0_ n1_; (try clear hb); (try clear hb2); (try clear hk); (try clear hi)) | (at_builtin; refine print_append_str (w0 := w) w.heap.size rfl (.tmp 36) _ 37 9 5 rfl Tryz.underlying37 Tryz.underlying9 info5 v590103 y590102 t590107 rfl rfl ?aO ?aB ?aS ?aL ?_; (case aB => exact (by repeat (first | (with_reducible first | exact HB.out | apply below_alloc | apply pw_below_drewN | apply below_drew1) | exact HB.out))); (case aO => exact (Kd.own_of_R (by (with_reducible repeat (first | apply Kd.R_alloc | apply Kd.R_drewN | apply Kd.R_drew)); exact HO590104.out))); (case aS => exact (below_size (by repeat (first | (with_reducible first | exact HB.out | apply below_alloc | apply pw_below_drewN | apply below_drew1) | exact HB.out)))); (case aL => have := LMc19.out; omega); intro v590109 w22 ho0 hb hg; have ho := Kd.R_of_own (h1 := fun _ => rfl) (ok := fun _ => True) ho0 (fun _ _ => trivial); clear ho0; have hat := True.intro; rw [← Ny590108.out] at ho; change Kd.R (Kd.int .u8) 5 w22 w.heap.size (fun _ => True) v590109 y590108 at ho; have n0_ := Aside0.mk (hb); have n1_ := Aside0.mk (ho); clear HB; clear HO590104; have HB := n0_; have HO590110 := n1_; clear n0_ n1_; clear ho hb hg hat))
                                    go_roundg kj5
                                    case measure => have := HK1.out; have := HJ1.out; have := HK3.out; have := HJ5.out; omega
                                    case rel => exact ⟨(y590108), (wrap64 (x5_3 + 1)), (by first | rfl | (simp; done) | (simp [*]; done)), H', ⟨by have := HK1.out; have := HJ1.out; have := HK3.out; have := HJ5.out; omega⟩, ⟨by (with_reducible repeat (first | apply Kd.R_alloc | apply Kd.R_drewN | apply Kd.R_drew)); exact HO590110.out⟩, ⟨by repeat (first | (with_reducible first | exact HB.out | apply below_alloc | apply pw_below_drewN | apply below_drew1) | exact HB.out)⟩⟩
                                  · rw [if_neg c19] at H
                                    exact absurd H (by simp)
                                · rw [if_neg c17] at H
                                  exact absurd H (by simp)
                              · rw [if_neg c16] at H
                                exact absurd H (by simp)
                            · rw [if_neg c15] at H
                              exact absurd H (by simp)
                          · rw [if_neg c14] at H
                            exact absurd H (by simp)
                        · rw [if_neg c13] at H
                          exact absurd H (by simp)
                      · rw [if_neg c12] at H
                        have c12b0 : decide (0 < x5_3) = false := decide_eq_false c12
                        clear c12
                        by_cases c23 : 0 ≤ x4_1
                        · rw [if_pos c23] at H
                          have c23b0 : decide (0 ≤ x4_1) = true := decide_eq_true c23
                          clear c23
                          by_cases c24 : x4_1 < (l0.length : Int)
                          · rw [if_pos c24] at H
                            have c24b0 : decide (x4_1 < (l0.length : Int)) = true := decide_eq_true c24
                            clear c24
                            by_cases c25 : 0 ≤ x5_3
                            · rw [if_pos c25] at H
                              have c25b0 : decide (0 ≤ x5_3) = true := decide_eq_true c25
                              clear c25
                              by_cases c26 : x5_3 < ((rd_L2 l0 x4_1).length : Int)
                              · rw [if_pos c26] at H
                                have c26b0 : decide (x5_3 < ((rd_L2 l0 x4_1).length : Int)) = true := decide_eq_true c26
                                clear c26
                                replace H := Option.bind_eq_some_iff.mp H
                                obtain ⟨t590113, A270, H⟩ := H
                                replace H : (if x3_3.length + t590113.size < 140737488355328 then (larderref04_text.l1 kj5 l0 (x3_3 ++ bytesOf t590113) x4_1 (wrap64 (x5_3 + 1))) else (none)) = some r := H
                                have A27 := Aside0.mk A270
                                clear A270
                                by_cases c28 : x3_3.length + t590113.size < 140737488355328
                                · rw [if_pos c28] at H
                                  have LMc28 := Aside0.mk c28
                                  clear c28
                                  obtain ⟨y590114, hy590114⟩ : ∃ y_ : List Int, y_ = (x3_3 ++ bytesOf t590113) := ⟨_, rfl⟩
                                  replace H : (larderref04_text.l1 kj5 l0 y590114 x4_1 (wrap64 (x5_3 + 1))) = some r := by first | (rw [hy590114]; with_reducible exact H) | (have H2_ := (Option.bind_some _ _).symm.trans H; rw [hy590114]; with_reducible exact H2_) | (have H2_ := (Option.bind_some _ _).symm.trans H; with_reducible exact H2_) | with_reducible exact H | (rw [hy590114]; exact H) | exact H
                                  have Ny590114 := Aside0.mk hy590114
                                  clear hy590114
                                  have H' := Aside0.mk H
                                  clear H
                                  have p590111 : 0 ≤ (x4_1 : Int) := of_decide_eq_true (by first | (with_reducible assumption) | assumption)
                                  have q590111 : x4_1 < (l0.length : Int) := of_decide_eq_true (by first | (with_reducible assumption) | assumption)
                                  obtain ⟨ad590111, A590111_0, c590111_0, e590111, hx590111_0, hl590111_0, hi590111_0⟩ := at_L2 HR0.out x4_1 p590111 q590111
                                  cases e590111
                                  replace hx590111_0 := (HB.out.cell (World.block_lt_of_cell? w _ hx590111_0)).trans hx590111_0
                                  have HR590111_0 := Aside0.mk hi590111_0
                                  have HC590111_0 := Aside0.mk hl590111_0
                                  clear hi590111_0 hl590111_0
                                  replace p590111 := eq_true p590111
                                  replace q590111 := eq_true q590111
                                  have p590112 : 0 ≤ (x5_3 : Int) := of_decide_eq_true (by first | (with_reducible assumption) | assumption)
                                  have q590112 : x5_3 < ((rd_L2 l0 x4_1).length : Int) := of_decide_eq_true (by first | (with_reducible assumption) | assumption)
                                  obtain ⟨ad590112, e590112, hx590112_0⟩ := Kd.at_string HR590111_0.out x5_3 p590112 q590112
                                  cases e590112
                                  replace hx590112_0 := (HB.out.cell (World.block_lt_of_cell? w _ hx590112_0)).trans hx590112_0
                                  replace p590112 := eq_true p590112
                                  replace q590112 := eq_true q590112
                                  go_wp2_with (first | ((with_reducible refine gate_callee (f := 82) rfl ?_); refine goesL_ (some 44) rfl rfl Tryz.func82 (by kernel_rfl) rfl #[.string (rdOf ByteArray.empty (rd_L2 l0 x4_1) x5_3)] rfl (by (try simp only [List.map_toArray, List.map_cons, List.map_nil]); first | done | rfl | (simp only [List.length_drop, List.length_take]; rfl)) ?_; (with_reducible refine (larderref04_written.calls kj5 (rdOf ByteArray.empty (rd_L2 l0 x4_1) x5_3) t590113 _ A27.out).mono ?_); rintro e w29 ⟨rfl, hb⟩; refine ⟨_, rfl, ?_⟩; have n0_ := Aside0.mk (Kd.R_below (by (with_reducible repeat (first | apply Kd.R_alloc | apply Kd.R_drewN | apply Kd.R_drew)); exact HO_3.out) hb); have n1_ := Aside0.mk (below_step (by repeat (first | (with_reducible first | exact HB.out | apply below_alloc | apply pw_below_drewN | apply below_drew1) | exact HB.out)) hb); clear HO_3; clear HB; have HO_3 := n0_; have HB := n1_; clear n0_ n1_; (try clear hb); (try clear hb2); (try clear hk); (try clear hi)) | (at_builtin; refine print_append_str (w0 := w) w.heap.size rfl (.tmp 36) _ 37 9 5 rfl Tryz.underlying37 Tryz.underlying9 info5 u3 x3_3 t590113 rfl rfl ?aO ?aB ?aS ?aL ?_; (case aB => exact (by repeat (first | (with_reducible first | exact HB.out | apply below_alloc | apply pw_below_drewN | apply below_drew1) | exact HB.out))); (case aO => exact (Kd.own_of_R (by (with_reducible repeat (first | apply Kd.R_alloc | apply Kd.R_drewN | apply Kd.R_drew)); exact HO_3.out))); (case aS => exact (below_size (by repeat (first | (with_reducible first | exact HB.out | apply below_alloc | apply pw_below_drewN | apply below_drew1) | exact HB.out)))); (case aL => have := LMc28.out; omega); intro v590115 w30 ho0 hb hg; have ho := Kd.R_of_own (h1 := fun _ => rfl) (ok := fun _ => True) ho0 (fun _ _ => trivial); clear ho0; have hat := True.intro; rw [← Ny590114.out] at ho; change Kd.R (Kd.int .u8) 5 w30 w.heap.size (fun _ => True) v590115 y590114 at ho; have n0_ := Aside0.mk (hb); have n1_ := Aside0.mk (ho); clear HB; clear HO_3; have HB := n0_; have HO590116 := n1_; clear n0_ n1_; clear ho hb hg hat))
                                  go_roundg kj5
                                  case measure => have := HK1.out; have := HJ1.out; have := HK3.out; have := HJ5.out; omega
                                  case rel => exact ⟨(y590114), (wrap64 (x5_3 + 1)), (by first | rfl | (simp; done) | (simp [*]; done)), H', ⟨by have := HK1.out; have := HJ1.out; have := HK3.out; have := HJ5.out; omega⟩, ⟨by (with_reducible repeat (first | apply Kd.R_alloc | apply Kd.R_drewN | apply Kd.R_drew)); exact HO590116.out⟩, ⟨by repeat (first | (with_reducible first | exact HB.out | apply below_alloc | apply pw_below_drewN | apply below_drew1) | exact HB.out)⟩⟩
                                · rw [if_neg c28] at H
                                  exact absurd H (by simp)
                              · rw [if_neg c26] at H
                                exact absurd H (by simp)
                            · rw [if_neg c25] at H
                              exact absurd H (by simp)
                          · rw [if_neg c24] at H
                            exact absurd H (by simp)
                        · rw [if_neg c23] at H
                          exact absurd H (by simp)
                    · replace c11 := Bool.eq_false_iff.mpr c11
                      subst c11
                      have H1 : ((some (([13, 10] : List Int) : List Int)).bind fun y590117 => (if x3_3.length + y590117.length < 140737488355328 then (larderref04_text.l0 kj5 l0 (x3_3 ++ y590117) (wrap64 (x4_1 + 1))) else (none))) = some r := by rw [if_neg (show ¬ (false = true) by decide)] at H; exact H
                      clear H
                      have H := H1
                      clear H1
                      obtain ⟨y590117, hy590117⟩ : ∃ y_ : List Int, y_ = (([13, 10] : List Int)) := ⟨_, rfl⟩
                      replace H : (if x3_3.length + y590117.length < 140737488355328 then (larderref04_text.l0 kj5 l0 (x3_3 ++ y590117) (wrap64 (x4_1 + 1))) else (none)) = some r := by first | (rw [hy590117]; with_reducible exact H) | (have H2_ := (Option.bind_some _ _).symm.trans H; rw [hy590117]; with_reducible exact H2_) | (have H2_ := (Option.bind_some _ _).symm.trans H; with_reducible exact H2_) | with_reducible exact H | (rw [hy590117]; exact H) | exact H
                      have Ny590117 := Aside0.mk hy590117
                      clear hy590117
                      by_cases c31 : x3_3.length + y590117.length < 140737488355328
                      · rw [if_pos c31] at H
                        have LMc31 := Aside0.mk c31
                        clear c31
                        obtain ⟨y590120, hy590120⟩ : ∃ y_ : List Int, y_ = (x3_3 ++ y590117) := ⟨_, rfl⟩
                        replace H : (larderref04_text.l0 kj5 l0 y590120 (wrap64 (x4_1 + 1))) = some r := by first | (rw [hy590120]; with_reducible exact H) | (have H2_ := (Option.bind_some _ _).symm.trans H; rw [hy590120]; with_reducible exact H2_) | (have H2_ := (Option.bind_some _ _).symm.trans H; with_reducible exact H2_) | with_reducible exact H | (rw [hy590120]; exact H) | exact H
                        have Ny590120 := Aside0.mk hy590120
                        clear hy590120
                        have H' := Aside0.mk H
                        clear H
                        go_wp2_with (first | ((with_reducible refine gate_dst (N := 47) rfl ?_); refine Kd.R_lit (Kd.int .u8) _ 5 ?hg (N := 47) ?hd (xs := ([13, 10] : List Int)) (inner := [.int .u8 13, .int .u8 10]) (ok := fun _ => True) (okp := fun _ => True) ?hr ?hp (fun _ hk => hk) trivial (Below.refl _ _) (Nat.le_refl _) (by simp) ?_; (case hd => rfl); (case hg => rfl); (case hr => first | (go_simp; done) | (go_simp; rfl)); (case hp => exact (Reps.one (show Kd.M (Kd.int .u8) _ _ _ 13 [.int .u8 13] from rfl) (Reps.one (show Kd.M (Kd.int .u8) _ _ _ 10 [.int .u8 10] from rfl) (Reps.none _ _)))); intro v590118 w32 ho33 hb hg_ hnew_; clear hg_ hnew_; (first | rw [← Ny590117.out] at ho33 | (simp only [Int.reduceToNat] at ho33; rw [← Ny590117.out] at ho33)); have n0_ := Aside0.mk (Kd.R_elder' (by (with_reducible repeat (first | apply Kd.R_alloc | apply Kd.R_drewN | apply Kd.R_drew)); exact HO_3.out) (Kd.R_base ho33) hb); have n1_ := Aside0.mk (Kd.R_lower (Kd.R_new' ho33 (Kd.R_lt (by (with_reducible repeat (first | apply Kd.R_alloc | apply Kd.R_drewN | apply Kd.R_drew)); exact HO_3.out))) (below_size (by repeat (first | (with_reducible first | exact HB.out | apply below_alloc | apply pw_below_drewN | apply below_drew1) | exact HB.out)))); have n2_ := Aside0.mk (below_step (by repeat (first | (with_reducible first | exact HB.out | apply below_alloc | apply pw_below_drewN | apply below_drew1) | exact HB.out)) hb); clear HO_3; clear HB; have HO_3 := n0_; have HO590119 := n1_; have HB := n2_; clear n0_ n1_ n2_; clear hb ho33; obtain ⟨Ao35, co35, eo35⟩ := Kd.R_slice HO590119.out; subst eo35) | ((with_reducible refine gate_builtin (b := .append) (xs := #[.tmp 46, .tmp 47]) rfl ?_); at_builtin; refine Kd.R_append_rows (Kd.int .u8) (w0 := w) w.heap.size rfl (.tmp 46) (.tmp 47) 37 5 (.int .u8 0) 1 rfl Tryz.underlying37 info5 rfl (by decide) (by omega) u3 x3_3 y590117 _ _ _ (fun k_ => some k_ ≠ (.slice Ao35 y590117.length co35 : Value).ownBlock) (fun _ => False) rfl rfl ?aO ?aR (fun _ _ h => h) (fun _ h => h.elim) ?aF ?aB ?aS ?aL ?_; (case aR => repeat (first | exact (Kd.R_reads' HO590119.out).2.2 | (with_reducible refine Kd.C_alloc ?_ _) | (with_reducible refine Kd.C_drewN ?_ _) | (with_reducible refine Kd.C_drew ?_))); (case aB => exact (by repeat (first | (with_reducible first | exact HB.out | apply below_alloc | apply pw_below_drewN | apply below_drew1) | exact HB.out))); (case aF => exact (fun k_ hk => Kd.fresh' (Kd.R_lt (by (with_reducible repeat (first | apply Kd.R_alloc | apply Kd.R_drewN | apply Kd.R_drew)); exact HO590119.out)) k_ hk)); (case aO => exact (by (with_reducible repeat (first | apply Kd.R_alloc | apply Kd.R_drewN | apply Kd.R_drew)); exact Kd.R_mono HO_3.out (fun _ hk => hk.2))); (case aS => exact (below_size (by repeat (first | (with_reducible first | exact HB.out | apply below_alloc | apply pw_below_drewN | apply below_drew1) | exact HB.out)))); (case aL => have := LMc31.out; omega); intro v590121 w34 ho hb hg hat; rw [← Ny590120.out] at ho; have n0_ := Aside0.mk (Kd.R_after (ok := (fun _ => True)) (by (with_reducible repeat (first | apply Kd.R_alloc | apply Kd.R_drewN | apply Kd.R_drew)); exact HO590119.out) hg hat); have n1_ := Aside0.mk (hb); have n2_ := Aside0.mk (ho); clear HO590119; clear HB; clear HO_3; have HO590119 := n0_; have HB := n1_; have HO590122 := n2_; clear n0_ n1_ n2_; clear ho hb hg hat))
                        go_roundg kj5
                        case measure => have := HK1.out; have := HJ1.out; have := HK3.out; have := HJ5.out; omega
                        case rel => exact ⟨(y590120), (wrap64 (x4_1 + 1)), (by first | rfl | (simp; done) | (simp [*]; done)), H', ⟨by have := HK1.out; have := HJ1.out; have := HK3.out; have := HJ5.out; omega⟩, ⟨by (with_reducible repeat (first | apply Kd.R_alloc | apply Kd.R_drewN | apply Kd.R_drew)); exact Kd.R_mono HO590122.out (fun _ hk => trivial)⟩, ⟨by repeat (first | (with_reducible first | exact HB.out | apply below_alloc | apply pw_below_drewN | apply below_drew1) | exact HB.out)⟩⟩
                      · rw [if_neg c31] at H
                        exact absurd H (by simp)
          · replace c5 := Bool.eq_false_iff.mpr c5
            subst c5
            have H1 : (some x3_1) = some r := by rw [if_neg (show ¬ (false = true) by decide)] at H; exact H
            clear H
            have H := H1
            clear H1
            obtain rfl := Option.some.inj H
            go_wp2
            go_ret
            exact ⟨_, by first | rfl | (simp [errW_none, errW_some] <;> rfl) | (simp [*, errW_none, errW_some] <;> rfl), by (with_reducible repeat (first | apply Kd.R_alloc | apply Kd.R_drewN | apply Kd.R_drew)); exact HO_3.out, by repeat (first | (with_reducible first | exact HB.out | apply below_alloc | apply pw_below_drewN | apply below_drew1) | exact HB.out)⟩

end Go.Proofs.YtappphffbnkloaaGreatDoor.GS
namespace Go.Proofs.YtappphffbnkloaaGreatDoor.GS
open Go.RowKit Go.Proofs.YtappphffbnkloaaGreatDoorW.PrintWords Go.Proofs.YtappphffbnkloaaGreatDoorW.PrintLast Go.Proofs.YtappphffbnkloaaGreatDoor.Ext
attribute [local go_sem] max2_int min2_int max_two min_two   -- for this text alone
set_option linter.unusedVariables false
set_option linter.unusedSimpArgs false

/-! ### larderref04_at: function 81 -/
def larderref04_at.f (a0 : Int) (a1 : Int) (a2 : Int) : Option (Int × Int × Int × Int × Int) := some (a0, a1, a2, 0, 0)
set_option maxHeartbeats 8000000 in
set_option maxRecDepth 100000 in
theorem larderref04_at.calls (a0 : Int) (a1 : Int) (a2 : Int) (r1 : Int) (r2 : Int) (r3 : Int) (r4 : Int) (r5 : Int) (w : World) (h : larderref04_at.f a0 a1 a2 = some (r1, r2, r3, r4, r5)) :
    Calls Tryz.prog 81 #[.int .i64 a0, .int .i64 a1, .int .i64 a2] w fun e w' => e = .returned (.agg #[.int .i64 r1, .int .i64 r2, .int .i64 r3, .int .i64 r4, .int .i64 r5]) ∧ Below w.heap.size w w' := by
  have hu46 := Tryz.underlying46
  have HB := Aside0.mk (Below.refl w.heap.size w)
  have H : (some (a0, a1, a2, 0, 0)) = some (r1, r2, r3, r4, r5) := h
  clear h
  simp only [Option.some.injEq, Prod.mk.injEq] at H
  obtain ⟨rfl, rfl, rfl, rfl, rfl⟩ := H
  go_enter Tryz.func81, Tryz.ntmps81
  go_wp2_with (first | ((with_reducible refine gate_dst (N := 6) rfl ?_); refine box_event ?hg (N := 6) ?hd (cs := #[.int .i64 0, .int .i64 0, .int .i64 0, .int .i64 0, .int .i64 0]) (t := 46) ?hr ?_; (case hd => rfl); (case hg => rfl); (case hr => first | (go_simp; done) | (go_simp; rfl)); intro gb810101 hg w4 hbox hb; have n0_ := Aside0.mk (below_step (by repeat (first | (with_reducible first | exact HB.out | apply below_alloc | apply pw_below_drewN | apply below_drew1) | exact HB.out)) hb); have n1_ := Aside0.mk (hbox); have n2_ := Aside0.mk ((by rw [hg]; exact (below_size (by repeat (first | (with_reducible first | exact HB.out | apply below_alloc | apply pw_below_drewN | apply below_drew1) | exact HB.out))) : w.heap.size ≤ gb810101)); have n3_ := Aside0.mk ((by rw [hg]; exact (below_size (by repeat (first | (with_reducible first | exact HB.out | apply below_alloc | apply pw_below_drewN | apply below_drew1) | exact HB.out))) : w.heap.size ≤ gb810101)); clear HB; have HB := n0_; have BK810101 := n1_; have GW810101 := n2_; have GE810101 := n3_; clear n0_ n1_ n2_ n3_; clear hb hbox hg; have hcz5_0 : w4.cell? ⟨gb810101, 0, none⟩ = some (.int .i64 0) := (blk_cell BK810101.out 0).trans rfl; have hcz5_1 : w4.cell? ⟨gb810101, 1, none⟩ = some (.int .i64 0) := (blk_cell BK810101.out 1).trans rfl; have hcz5_2 : w4.cell? ⟨gb810101, 2, none⟩ = some (.int .i64 0) := (blk_cell BK810101.out 2).trans rfl; have hcz5_3 : w4.cell? ⟨gb810101, 3, none⟩ = some (.int .i64 0) := (blk_cell BK810101.out 3).trans rfl; have hcz5_4 : w4.cell? ⟨gb810101, 4, none⟩ = some (.int .i64 0) := (blk_cell BK810101.out 4).trans rfl; have hfz5_0 := blk_frozen BK810101.out 0; have hfz5_1 := blk_frozen BK810101.out 1; have hfz5_2 := blk_frozen BK810101.out 2; have hfz5_3 := blk_frozen BK810101.out 3; have hfz5_4 := blk_frozen BK810101.out 4))
  refine bodyPost_ret (results_cell_row rfl _ _ gb810101 46 #[.int .i64 a0, .int .i64 a1, .int .i64 a2, .int .i64 0, .int .i64 0] (0, 0) _ rfl (by (with_reducible repeat (first | refine blk_drewN ?_ _ | refine blk_drew ?_ | refine blk_alloc ?_ _)); refine blk_put (cs := #[.int .i64 a0, .int .i64 a1, .int .i64 a2, .int .i64 0, .int .i64 0]) ?_ 4 _ rfl; (with_reducible repeat (first | refine blk_drewN ?_ _ | refine blk_drew ?_ | refine blk_alloc ?_ _)); refine blk_put (cs := #[.int .i64 a0, .int .i64 a1, .int .i64 a2, .int .i64 0, .int .i64 0]) ?_ 3 _ rfl; (with_reducible repeat (first | refine blk_drewN ?_ _ | refine blk_drew ?_ | refine blk_alloc ?_ _)); refine blk_put (cs := #[.int .i64 a0, .int .i64 a1, .int .i64 0, .int .i64 0, .int .i64 0]) ?_ 2 _ rfl; (with_reducible repeat (first | refine blk_drewN ?_ _ | refine blk_drew ?_ | refine blk_alloc ?_ _)); refine blk_put (cs := #[.int .i64 a0, .int .i64 0, .int .i64 0, .int .i64 0, .int .i64 0]) ?_ 1 _ rfl; (with_reducible repeat (first | refine blk_drewN ?_ _ | refine blk_drew ?_ | refine blk_alloc ?_ _)); refine blk_put (cs := #[.int .i64 0, .int .i64 0, .int .i64 0, .int .i64 0, .int .i64 0]) ?_ 0 _ rfl; (with_reducible repeat (first | refine blk_drewN ?_ _ | refine blk_drew ?_ | refine blk_alloc ?_ _)); exact BK810101.out) Tryz.underlying46 rfl (by kernel_rfl)) rfl ?_
  exact ⟨by first | rfl | (simp [errW_none, errW_some] <;> rfl) | (simp [*, errW_none, errW_some] <;> rfl), by repeat (first | (with_reducible first | exact HB.out | apply below_alloc | apply pw_below_drewN | apply below_drew1 | refine below_set ?_ GE810101.out) | exact HB.out)⟩

end Go.Proofs.YtappphffbnkloaaGreatDoor.GS
namespace Go.Proofs.YtappphffbnkloaaGreatDoor.GS
open Go.RowKit Go.Proofs.YtappphffbnkloaaGreatDoorW.PrintWords Go.Proofs.YtappphffbnkloaaGreatDoorW.PrintLast Go.Proofs.YtappphffbnkloaaGreatDoor.Ext
attribute [local go_sem] max2_int min2_int max_two min_two   -- for this text alone
set_option linter.unusedVariables false
set_option linter.unusedSimpArgs false

/-! ### larderref04_wrong: function 80 -/
mutual
def larderref04_wrong.l0 : Nat → List (List ByteArray) → Int → Option (Int × Int × Int × Int × Int)
  | 0, _, _ => none
  | k + 1, x0, x3 => if x3 < (x0.length : Int) then (if x3 = 4096 then ((larderref04_at.f 7 (wrap64 (x3 + 1)) 0).bind fun bt800102 => (some (bt800102.1, bt800102.2.1, bt800102.2.2.1, bt800102.2.2.2.1, bt800102.2.2.2.2))) else (if 0 ≤ x3 then (if ((rd_L2 x0 x3).length : Int) = 0 then ((larderref04_at.f 6 (wrap64 (x3 + 1)) 0).bind fun bt800108 => (some (bt800108.1, bt800108.2.1, bt800108.2.2.1, bt800108.2.2.2.1, bt800108.2.2.2.2))) else (if ((rd_L2 x0 x3).length : Int) > 64 then ((larderref04_at.f 6 (wrap64 (x3 + 1)) 64).bind fun bt800114 => (some (bt800114.1, bt800114.2.1, bt800114.2.2.1, bt800114.2.2.2.1, bt800114.2.2.2.2))) else (if 0 < (x0.length : Int) then (if ((rd_L2 x0 x3).length : Int) = ((rd_L2 x0 0).length : Int) then (larderref04_wrong.l1 k x0 x3 0) else ((larderref04_at.f 8 (wrap64 (x3 + 1)) 0).bind fun bt800121 => (some (bt800121.1, bt800121.2.1, bt800121.2.2.1, bt800121.2.2.2.1, bt800121.2.2.2.2)))) else (none)))) else (none))) else (some (0, 0, 0, 0, 0))
def larderref04_wrong.l1 : Nat → List (List ByteArray) → Int → Int → Option (Int × Int × Int × Int × Int)
  | 0, _, _, _ => none
  | k + 1, x0, x3, x4 => if 0 ≤ x3 then (if x3 < (x0.length : Int) then (if x4 < ((rd_L2 x0 x3).length : Int) then (if 0 ≤ x4 then (if ((rdOf ByteArray.empty (rd_L2 x0 x3) x4).size : Int) > 4096 then ((larderref04_at.f 5 (wrap64 (x3 + 1)) x4).bind fun bt800129 => (some (bt800129.1, bt800129.2.1, bt800129.2.2.1, bt800129.2.2.2.1, bt800129.2.2.2.2))) else (larderref04_wrong.l2 k x0 x3 x4 (rdOf ByteArray.empty (rd_L2 x0 x3) x4) 0)) else (none)) else (larderref04_wrong.l0 k x0 (wrap64 (x3 + 1)))) else (none)) else (none)
def larderref04_wrong.l2 : Nat → List (List ByteArray) → Int → Int → ByteArray → Int → Option (Int × Int × Int × Int × Int)
  | 0, _, _, _, _, _ => none
  | k + 1, x0, x3, x4, x5, x6 => if x6 < (x5.size : Int) then (if 0 ≤ x6 then ((larderref04_may.f (bt x5 x6)).bind fun t800134 => (if t800134 = true then (larderref04_wrong.l2 k x0 x3 x4 x5 (wrap64 (x6 + 1))) else ((larderref04_at.f 4 (wrap64 (x3 + 1)) x4).bind fun bt800135 => (some (bt800135.1, bt800135.2.1, bt800135.2.2.1, bt800135.2.2.2.1, bt800135.2.2.2.2))))) else (none)) else (larderref04_wrong.l1 k x0 x3 (wrap64 (x4 + 1)))
end
def larderref04_wrong.f (k : Nat) (l0 : List (List ByteArray)) : Option (Int × Int × Int × Int × Int) := larderref04_wrong.l0 k l0 0
theorem larderref04_wrong.mono_l : ∀ k, (∀ y0 y1, LeO (larderref04_wrong.l0 k y0 y1) (larderref04_wrong.l0 (k + 1) y0 y1)) ∧ (∀ y0 y1 y2, LeO (larderref04_wrong.l1 k y0 y1 y2) (larderref04_wrong.l1 (k + 1) y0 y1 y2)) ∧ (∀ y0 y1 y2 y3 y4, LeO (larderref04_wrong.l2 k y0 y1 y2 y3 y4) (larderref04_wrong.l2 (k + 1) y0 y1 y2 y3 y4))
  | 0 => ⟨fun _ _ r h => by simp [larderref04_wrong.l0] at h, fun _ _ _ r h => by simp [larderref04_wrong.l1] at h, fun _ _ _ _ _ r h => by simp [larderref04_wrong.l2] at h⟩
  | k + 1 => by
    obtain ⟨ih0, ih1, ih2⟩ := larderref04_wrong.mono_l k
    refine ⟨?_, ?_, ?_⟩
    · intro y0 y1
      unfold larderref04_wrong.l0
      repeat' first
      | (with_reducible exact ih0 _ _)
      | (with_reducible exact ih1 _ _ _)
      | (with_reducible exact ih2 _ _ _ _ _)
      | (with_reducible exact LeO.refl _)
      | (with_reducible exact LeO.none _)
      | (with_reducible refine LeO.ite ?_ ?_)
      | (with_reducible refine LeO.bind ?_ (fun _ => ?_))
      | exact ih0 _ _
      | exact ih1 _ _ _
      | exact ih2 _ _ _ _ _
      | exact LeO.none _
      | refine LeO.ite ?_ ?_
      | refine LeO.bind ?_ (fun _ => ?_)
    · intro y0 y1 y2
      unfold larderref04_wrong.l1
      repeat' first
      | (with_reducible exact ih0 _ _)
      | (with_reducible exact ih1 _ _ _)
      | (with_reducible exact ih2 _ _ _ _ _)
      | (with_reducible exact LeO.refl _)
      | (with_reducible exact LeO.none _)
      | (with_reducible refine LeO.ite ?_ ?_)
      | (with_reducible refine LeO.bind ?_ (fun _ => ?_))
      | exact ih0 _ _
      | exact ih1 _ _ _
      | exact ih2 _ _ _ _ _
      | exact LeO.none _
      | refine LeO.ite ?_ ?_
      | refine LeO.bind ?_ (fun _ => ?_)
    · intro y0 y1 y2 y3 y4
      unfold larderref04_wrong.l2
      repeat' first
      | (with_reducible exact ih0 _ _)
      | (with_reducible exact ih1 _ _ _)
      | (with_reducible exact ih2 _ _ _ _ _)
      | (with_reducible exact LeO.refl _)
      | (with_reducible exact LeO.none _)
      | (with_reducible refine LeO.ite ?_ ?_)
      | (with_reducible refine LeO.bind ?_ (fun _ => ?_))
      | exact ih0 _ _
      | exact ih1 _ _ _
      | exact ih2 _ _ _ _ _
      | exact LeO.none _
      | refine LeO.ite ?_ ?_
      | refine LeO.bind ?_ (fun _ => ?_)
theorem larderref04_wrong.mono : ∀ a0 k, LeO (larderref04_wrong.f k a0) (larderref04_wrong.f (k + 1) a0) := by
  intro a0 k
  obtain ⟨ih0, ih1, ih2⟩ := larderref04_wrong.mono_l k
  unfold larderref04_wrong.f
  repeat' first
      | (with_reducible exact ih0 _ _)
      | (with_reducible exact ih1 _ _ _)
      | (with_reducible exact ih2 _ _ _ _ _)
      | (with_reducible exact LeO.refl _)
      | (with_reducible exact LeO.none _)
      | (with_reducible refine LeO.ite ?_ ?_)
      | (with_reducible refine LeO.bind ?_ (fun _ => ?_))
      | exact ih0 _ _
      | exact ih1 _ _ _
      | exact ih2 _ _ _ _ _
      | exact LeO.none _
      | refine LeO.ite ?_ ?_
      | refine LeO.bind ?_ (fun _ => ?_)
set_option maxHeartbeats 8000000 in
set_option maxRecDepth 100000 in
theorem larderref04_wrong.calls (k : Nat) (A0 : Option Addr) (c0 : Nat) (l0 : List (List ByteArray)) (r1 : Int) (r2 : Int) (r3 : Int) (r4 : Int) (r5 : Int) (w : World) (hr0 : Kd.C (Kd.slice 9 Kd.string) w A0 l0.length l0) (hc0 : l0.length ≤ c0) (h : larderref04_wrong.f k l0 = some (r1, r2, r3, r4, r5)) :
    Calls Tryz.prog 80 #[.slice A0 l0.length c0] w fun e w' => e = .returned (.agg #[.int .i64 r1, .int .i64 r2, .int .i64 r3, .int .i64 r4, .int .i64 r5]) ∧ Below w.heap.size w w' := by
  have hu46 := Tryz.underlying46
  have HR0 := Aside0.mk hr0
  have HC0 := Aside0.mk hc0
  clear hr0 hc0
  have HB := Aside0.mk (Below.refl w.heap.size w)
  have H : (larderref04_wrong.l0 k l0 0) = some (r1, r2, r3, r4, r5) := h
  clear h
  have H' := Aside0.mk H
  clear H
  go_enter Tryz.func80, Tryz.ntmps80
  go_wp2_with (first | ((with_reducible refine gate_dst (N := 2) rfl ?_); refine box_event ?hg (N := 2) ?hd (cs := #[.int .i64 0, .int .i64 0, .int .i64 0, .int .i64 0, .int .i64 0]) (t := 46) ?hr ?_; (case hd => rfl); (case hg => rfl); (case hr => first | (go_simp; done) | (go_simp; rfl)); intro gb800101 hg w2 hbox hb; have n0_ := Aside0.mk (below_step (by repeat (first | (with_reducible first | exact HB.out | apply below_alloc | apply pw_below_drewN | apply below_drew1) | exact HB.out)) hb); have n1_ := Aside0.mk (hbox); have n2_ := Aside0.mk ((by rw [hg]; exact (below_size (by repeat (first | (with_reducible first | exact HB.out | apply below_alloc | apply pw_below_drewN | apply below_drew1) | exact HB.out))) : w.heap.size ≤ gb800101)); have n3_ := Aside0.mk ((by rw [hg]; exact (below_size (by repeat (first | (with_reducible first | exact HB.out | apply below_alloc | apply pw_below_drewN | apply below_drew1) | exact HB.out))) : w.heap.size ≤ gb800101)); clear HB; have HB := n0_; have BK800101 := n1_; have GW800101 := n2_; have GE800101 := n3_; clear n0_ n1_ n2_ n3_; clear hb hbox hg))
  repeat (go_quiet (first | ((with_reducible refine gate_dst (N := 2) rfl ?_); refine box_event ?hg (N := 2) ?hd (cs := #[.int .i64 0, .int .i64 0, .int .i64 0, .int .i64 0, .int .i64 0]) (t := 46) ?hr ?_; (case hd => rfl); (case hg => rfl); (case hr => first | (go_simp; done) | (go_simp; rfl)); intro gb800101 hg w2 hbox hb; have n0_ := Aside0.mk (below_step (by repeat (first | (with_reducible first | exact HB.out | apply below_alloc | apply pw_below_drewN | apply below_drew1) | exact HB.out)) hb); have n1_ := Aside0.mk (hbox); have n2_ := Aside0.mk ((by rw [hg]; exact (below_size (by repeat (first | (with_reducible first | exact HB.out | apply below_alloc | apply pw_below_drewN | apply below_drew1) | exact HB.out))) : w.heap.size ≤ gb800101)); have n3_ := Aside0.mk ((by rw [hg]; exact (below_size (by repeat (first | (with_reducible first | exact HB.out | apply below_alloc | apply pw_below_drewN | apply below_drew1) | exact HB.out))) : w.heap.size ≤ gb800101)); clear HB; have HB := n0_; have BK800101 := n1_; have GW800101 := n2_; have GE800101 := n3_; clear n0_ n1_ n2_ n3_; clear hb hbox hg)); try go_wp2_with (first | ((with_reducible refine gate_dst (N := 2) rfl ?_); refine box_event ?hg (N := 2) ?hd (cs := #[.int .i64 0, .int .i64 0, .int .i64 0, .int .i64 0, .int .i64 0]) (t := 46) ?hr ?_; (case hd => rfl); (case hg => rfl); (case hr => first | (go_simp; done) | (go_simp; rfl)); intro gb800101 hg w2 hbox hb; have n0_ := Aside0.mk (below_step (by repeat (first | (with_reducible first | exact HB.out | apply below_alloc | apply pw_below_drewN | apply below_drew1) | exact HB.out)) hb); have n1_ := Aside0.mk (hbox); have n2_ := Aside0.mk ((by rw [hg]; exact (below_size (by repeat (first | (with_reducible first | exact HB.out | apply below_alloc | apply pw_below_drewN | apply below_drew1) | exact HB.out))) : w.heap.size ≤ gb800101)); have n3_ := Aside0.mk ((by rw [hg]; exact (below_size (by repeat (first | (with_reducible first | exact HB.out | apply below_alloc | apply pw_below_drewN | apply below_drew1) | exact HB.out))) : w.heap.size ≤ gb800101)); clear HB; have HB := n0_; have BK800101 := n1_; have GW800101 := n2_; have GE800101 := n3_; clear n0_ n1_ n2_ n3_; clear hb hbox hg)))
  go_loopg [3] k (fun kq v3 w' => ∃ (x3_1 : Int) (x800102000_1 : Int) (x800102001_1 : Int) (x800102002_1 : Int) (x800102003_1 : Int) (x800102004_1 : Int), v3 = .int .i64 x3_1 ∧ Aside0 (larderref04_wrong.l0 kq l0 x3_1 = some (r1, r2, r3, r4, r5)) ∧ Aside0 (kq ≤ k) ∧ Aside0 (w'.heap[gb800101]? = some (.cells #[.int .i64 x800102000_1, .int .i64 x800102001_1, .int .i64 x800102002_1, .int .i64 x800102003_1, .int .i64 x800102004_1] 46 (0, 0))) ∧ Aside0 (Below w.heap.size w w'))
  case atStart => exact ⟨(0), (0), (0), (0), (0), (0), (by first | rfl | (simp; done) | (simp [*]; done)), H', ⟨Nat.le_refl _⟩, ⟨by (with_reducible repeat (first | refine blk_drewN ?_ _ | refine blk_drew ?_ | refine blk_alloc ?_ _)); exact BK800101.out⟩, ⟨by repeat (first | (with_reducible first | exact HB.out | apply below_alloc | apply pw_below_drewN | apply below_drew1 | refine below_set ?_ GE800101.out) | exact HB.out)⟩⟩
  case round =>
    clear H'
    try clear p2
    obtain ⟨x3_1, x800102000_1, x800102001_1, x800102002_1, x800102003_1, x800102004_1, rfl, HA, HK1, BK800101, HB⟩ := hrel
    cases gk with
    | zero => exact absurd HA.out (by simp [larderref04_wrong.l0])
    | succ k1 =>
      have H := HA.out
      clear HA
      simp only [larderref04_wrong.l0] at H
      by_cases c3 : x3_1 < (l0.length : Int)
      · rw [if_pos c3] at H
        have c3b0 : decide (x3_1 < (l0.length : Int)) = true := decide_eq_true c3
        clear c3
        by_cases c4 : x3_1 = 4096
        · rw [if_pos c4] at H
          have c4b0 : (x3_1 == 4096) = true := beq_iff_eq.mpr c4
          have c4b1 : (x3_1 != 4096) = false := bne_eq_false_iff_eq.mpr c4
          clear c4
          replace H := Option.bind_eq_some_iff.mp H
          obtain ⟨⟨t800102, t800103, t800104, t800105, t800106⟩, A50, H⟩ := H
          replace H : (some (t800102, t800103, t800104, t800105, t800106)) = some (r1, r2, r3, r4, r5) := H
          have A5 := Aside0.mk A50
          clear A50
          simp only [Option.some.injEq, Prod.mk.injEq] at H
          obtain ⟨rfl, rfl, rfl, rfl, rfl⟩ := H
          go_wp2_with (first | (go_at_call 81; (with_reducible refine (larderref04_at.calls 7 (wrap64 (x3_1 + 1)) 0 t800102 t800103 t800104 t800105 t800106 _ A5.out).mono ?_); rintro e w6 ⟨rfl, hb⟩; have n0_ := Aside0.mk (blk_below (g := gb800101) (o := .cells #[.int .i64 x800102000_1, .int .i64 x800102001_1, .int .i64 x800102002_1, .int .i64 x800102003_1, .int .i64 x800102004_1] 46 (0, 0)) (by (with_reducible repeat (first | refine blk_drewN ?_ _ | refine blk_drew ?_ | refine blk_alloc ?_ _)); exact BK800101.out) hb); have n1_ := Aside0.mk (below_step (by repeat (first | (with_reducible first | exact HB.out | apply below_alloc | apply pw_below_drewN | apply below_drew1 | refine below_set ?_ GE800101.out) | exact HB.out)) hb); clear BK800101; clear HB; have BK800101 := n0_; have HB := n1_; clear n0_ n1_; (try clear hb); (try clear hb2); (try clear hk); (try clear hi); have hcz7_0 : w6.cell? ⟨gb800101, 0, none⟩ = some (.int .i64 x800102000_1) := (blk_cell BK800101.out 0).trans rfl; have hcz7_1 : w6.cell? ⟨gb800101, 1, none⟩ = some (.int .i64 x800102001_1) := (blk_cell BK800101.out 1).trans rfl; have hcz7_2 : w6.cell? ⟨gb800101, 2, none⟩ = some (.int .i64 x800102002_1) := (blk_cell BK800101.out 2).trans rfl; have hcz7_3 : w6.cell? ⟨gb800101, 3, none⟩ = some (.int .i64 x800102003_1) := (blk_cell BK800101.out 3).trans rfl; have hcz7_4 : w6.cell? ⟨gb800101, 4, none⟩ = some (.int .i64 x800102004_1) := (blk_cell BK800101.out 4).trans rfl; have hfz7_0 := blk_frozen BK800101.out 0; have hfz7_1 := blk_frozen BK800101.out 1; have hfz7_2 := blk_frozen BK800101.out 2; have hfz7_3 := blk_frozen BK800101.out 3; have hfz7_4 := blk_frozen BK800101.out 4))
          repeat (go_quiet (first | (go_at_call 81; (with_reducible refine (larderref04_at.calls 7 (wrap64 (x3_1 + 1)) 0 t800102 t800103 t800104 t800105 t800106 _ A5.out).mono ?_); rintro e w6 ⟨rfl, hb⟩; have n0_ := Aside0.mk (blk_below (g := gb800101) (o := .cells #[.int .i64 x800102000_1, .int .i64 x800102001_1, .int .i64 x800102002_1, .int .i64 x800102003_1, .int .i64 x800102004_1] 46 (0, 0)) (by (with_reducible repeat (first | refine blk_drewN ?_ _ | refine blk_drew ?_ | refine blk_alloc ?_ _)); exact BK800101.out) hb); have n1_ := Aside0.mk (below_step (by repeat (first | (with_reducible first | exact HB.out | apply below_alloc | apply pw_below_drewN | apply below_drew1 | refine below_set ?_ GE800101.out) | exact HB.out)) hb); clear BK800101; clear HB; have BK800101 := n0_; have HB := n1_; clear n0_ n1_; (try clear hb); (try clear hb2); (try clear hk); (try clear hi); have hcz7_0 : w6.cell? ⟨gb800101, 0, none⟩ = some (.int .i64 x800102000_1) := (blk_cell BK800101.out 0).trans rfl; have hcz7_1 : w6.cell? ⟨gb800101, 1, none⟩ = some (.int .i64 x800102001_1) := (blk_cell BK800101.out 1).trans rfl; have hcz7_2 : w6.cell? ⟨gb800101, 2, none⟩ = some (.int .i64 x800102002_1) := (blk_cell BK800101.out 2).trans rfl; have hcz7_3 : w6.cell? ⟨gb800101, 3, none⟩ = some (.int .i64 x800102003_1) := (blk_cell BK800101.out 3).trans rfl; have hcz7_4 : w6.cell? ⟨gb800101, 4, none⟩ = some (.int .i64 x800102004_1) := (blk_cell BK800101.out 4).trans rfl; have hfz7_0 := blk_frozen BK800101.out 0; have hfz7_1 := blk_frozen BK800101.out 1; have hfz7_2 := blk_frozen BK800101.out 2; have hfz7_3 := blk_frozen BK800101.out 3; have hfz7_4 := blk_frozen BK800101.out 4)); try go_wp2_with (first | (go_at_call 81; (with_reducible refine (larderref04_at.calls 7 (wrap64 (x3_1 + 1)) 0 t800102 t800103 t800104 t800105 t800106 _ A5.out).mono ?_); rintro e w6 ⟨rfl, hb⟩; have n0_ := Aside0.mk (blk_below (g := gb800101) (o := .cells #[.int .i64 x800102000_1, .int .i64 x800102001_1, .int .i64 x800102002_1, .int .i64 x800102003_1, .int .i64 x800102004_1] 46 (0, 0)) (by (with_reducible repeat (first | refine blk_drewN ?_ _ | refine blk_drew ?_ | refine blk_alloc ?_ _)); exact BK800101.out) hb); have n1_ := Aside0.mk (below_step (by repeat (first | (with_reducible first | exact HB.out | apply below_alloc | apply pw_below_drewN | apply below_drew1 | refine below_set ?_ GE800101.out) | exact HB.out)) hb); clear BK800101; clear HB; have BK800101 := n0_; have HB := n1_; clear n0_ n1_; (try clear hb); (try clear hb2); (try clear hk); (try clear hi); have hcz7_0 : w6.cell? ⟨gb800101, 0, none⟩ = some (.int .i64 x800102000_1) := (blk_cell BK800101.out 0).trans rfl; have hcz7_1 : w6.cell? ⟨gb800101, 1, none⟩ = some (.int .i64 x800102001_1) := (blk_cell BK800101.out 1).trans rfl; have hcz7_2 : w6.cell? ⟨gb800101, 2, none⟩ = some (.int .i64 x800102002_1) := (blk_cell BK800101.out 2).trans rfl; have hcz7_3 : w6.cell? ⟨gb800101, 3, none⟩ = some (.int .i64 x800102003_1) := (blk_cell BK800101.out 3).trans rfl; have hcz7_4 : w6.cell? ⟨gb800101, 4, none⟩ = some (.int .i64 x800102004_1) := (blk_cell BK800101.out 4).trans rfl; have hfz7_0 := blk_frozen BK800101.out 0; have hfz7_1 := blk_frozen BK800101.out 1; have hfz7_2 := blk_frozen BK800101.out 2; have hfz7_3 := blk_frozen BK800101.out 3; have hfz7_4 := blk_frozen BK800101.out 4)))
          refine bodyPost_ret (results_cell_row rfl _ _ gb800101 46 #[.int .i64 t800102, .int .i64 t800103, .int .i64 t800104, .int .i64 t800105, .int .i64 t800106] (0, 0) _ rfl (by (with_reducible repeat (first | refine blk_drewN ?_ _ | refine blk_drew ?_ | refine blk_alloc ?_ _)); refine blk_put (cs := #[.int .i64 t800102, .int .i64 t800103, .int .i64 t800104, .int .i64 t800105, .int .i64 x800102004_1]) ?_ 4 _ rfl; (with_reducible repeat (first | refine blk_drewN ?_ _ | refine blk_drew ?_ | refine blk_alloc ?_ _)); refine blk_put (cs := #[.int .i64 t800102, .int .i64 t800103, .int .i64 t800104, .int .i64 x800102003_1, .int .i64 x800102004_1]) ?_ 3 _ rfl; (with_reducible repeat (first | refine blk_drewN ?_ _ | refine blk_drew ?_ | refine blk_alloc ?_ _)); refine blk_put (cs := #[.int .i64 t800102, .int .i64 t800103, .int .i64 x800102002_1, .int .i64 x800102003_1, .int .i64 x800102004_1]) ?_ 2 _ rfl; (with_reducible repeat (first | refine blk_drewN ?_ _ | refine blk_drew ?_ | refine blk_alloc ?_ _)); refine blk_put (cs := #[.int .i64 t800102, .int .i64 x800102001_1, .int .i64 x800102002_1, .int .i64 x800102003_1, .int .i64 x800102004_1]) ?_ 1 _ rfl; (with_reducible repeat (first | refine blk_drewN ?_ _ | refine blk_drew ?_ | refine blk_alloc ?_ _)); refine blk_put (cs := #[.int .i64 x800102000_1, .int .i64 x800102001_1, .int .i64 x800102002_1, .int .i64 x800102003_1, .int .i64 x800102004_1]) ?_ 0 _ rfl; (with_reducible repeat (first | refine blk_drewN ?_ _ | refine blk_drew ?_ | refine blk_alloc ?_ _)); exact BK800101.out) Tryz.underlying46 rfl (by kernel_rfl)) rfl ?_
          exact ⟨by first | rfl | (simp [errW_none, errW_some] <;> rfl) | (simp [*, errW_none, errW_some] <;> rfl), by repeat (first | (with_reducible first | exact HB.out | apply below_alloc | apply pw_below_drewN | apply below_drew1 | refine below_set ?_ GE800101.out) | exact HB.out)⟩
        · rw [if_neg c4] at H
          have c4b0 : (x3_1 == 4096) = false := beq_eq_false_iff_ne.mpr c4
          have c4b1 : (x3_1 != 4096) = true := bne_iff_ne.mpr c4
          by_cases c8 : 0 ≤ x3_1
          · rw [if_pos c8] at H
            have c8b0 : decide (0 ≤ x3_1) = true := decide_eq_true c8
            clear c8
            by_cases c9 : ((rd_L2 l0 x3_1).length : Int) = 0
            · rw [if_pos c9] at H
              have c9b0 : (((rd_L2 l0 x3_1).length : Int) == 0) = true := beq_iff_eq.mpr c9
              have c9b1 : (((rd_L2 l0 x3_1).length : Int) != 0) = false := bne_eq_false_iff_eq.mpr c9
              clear c9
              replace H := Option.bind_eq_some_iff.mp H
              obtain ⟨⟨t800108, t800109, t800110, t800111, t800112⟩, A100, H⟩ := H
              replace H : (some (t800108, t800109, t800110, t800111, t800112)) = some (r1, r2, r3, r4, r5) := H
              have A10 := Aside0.mk A100
              clear A100
              simp only [Option.some.injEq, Prod.mk.injEq] at H
              obtain ⟨rfl, rfl, rfl, rfl, rfl⟩ := H
              have p800107 : 0 ≤ (x3_1 : Int) := of_decide_eq_true (by first | (with_reducible assumption) | assumption)
              have q800107 : x3_1 < (l0.length : Int) := of_decide_eq_true (by first | (with_reducible assumption) | assumption)
              obtain ⟨ad800107, A800107_0, c800107_0, e800107, hx800107_0, hl800107_0, hi800107_0⟩ := at_L2 HR0.out x3_1 p800107 q800107
              cases e800107
              replace hx800107_0 := (HB.out.cell (World.block_lt_of_cell? w _ hx800107_0)).trans hx800107_0
              have HR800107_0 := Aside0.mk hi800107_0
              have HC800107_0 := Aside0.mk hl800107_0
              clear hi800107_0 hl800107_0
              replace p800107 := eq_true p800107
              replace q800107 := eq_true q800107
              go_wp2_with (first | (go_at_call 81; (with_reducible refine (larderref04_at.calls 6 (wrap64 (x3_1 + 1)) 0 t800108 t800109 t800110 t800111 t800112 _ A10.out).mono ?_); rintro e w11 ⟨rfl, hb⟩; have n0_ := Aside0.mk (blk_below (g := gb800101) (o := .cells #[.int .i64 x800102000_1, .int .i64 x800102001_1, .int .i64 x800102002_1, .int .i64 x800102003_1, .int .i64 x800102004_1] 46 (0, 0)) (by (with_reducible repeat (first | refine blk_drewN ?_ _ | refine blk_drew ?_ | refine blk_alloc ?_ _)); exact BK800101.out) hb); have n1_ := Aside0.mk (below_step (by repeat (first | (with_reducible first | exact HB.out | apply below_alloc | apply pw_below_drewN | apply below_drew1 | refine below_set ?_ GE800101.out) | exact HB.out)) hb); clear BK800101; clear HB; have BK800101 := n0_; have HB := n1_; clear n0_ n1_; (try clear hb); (try clear hb2); (try clear hk); (try clear hi); have hcz12_0 : w11.cell? ⟨gb800101, 0, none⟩ = some (.int .i64 x800102000_1) := (blk_cell BK800101.out 0).trans rfl; have hcz12_1 : w11.cell? ⟨gb800101, 1, none⟩ = some (.int .i64 x800102001_1) := (blk_cell BK800101.out 1).trans rfl; have hcz12_2 : w11.cell? ⟨gb800101, 2, none⟩ = some (.int .i64 x800102002_1) := (blk_cell BK800101.out 2).trans rfl; have hcz12_3 : w11.cell? ⟨gb800101, 3, none⟩ = some (.int .i64 x800102003_1) := (blk_cell BK800101.out 3).trans rfl; have hcz12_4 : w11.cell? ⟨gb800101, 4, none⟩ = some (.int .i64 x800102004_1) := (blk_cell BK800101.out 4).trans rfl; have hfz12_0 := blk_frozen BK800101.out 0; have hfz12_1 := blk_frozen BK800101.out 1; have hfz12_2 := blk_frozen BK800101.out 2; have hfz12_3 := blk_frozen BK800101.out 3; have hfz12_4 := blk_frozen BK800101.out 4))
              repeat (go_quiet (first | (go_at_call 81; (with_reducible refine (larderref04_at.calls 6 (wrap64 (x3_1 + 1)) 0 t800108 t800109 t800110 t800111 t800112 _ A10.out).mono ?_); rintro e w11 ⟨rfl, hb⟩; have n0_ := Aside0.mk (blk_below (g := gb800101) (o := .cells #[.int .i64 x800102000_1, .int .i64 x800102001_1, .int .i64 x800102002_1, .int .i64 x800102003_1, .int .i64 x800102004_1] 46 (0, 0)) (by (with_reducible repeat (first | refine blk_drewN ?_ _ | refine blk_drew ?_ | refine blk_alloc ?_ _)); exact BK800101.out) hb); have n1_ := Aside0.mk (below_step (by repeat (first | (with_reducible first | exact HB.out | apply below_alloc | apply pw_below_drewN | apply below_drew1 | refine below_set ?_ GE800101.out) | exact HB.out)) hb); clear BK800101; clear HB; have BK800101 := n0_; have HB := n1_; clear n0_ n1_; (try clear hb); (try clear hb2); (try clear hk); (try clear hi); have hcz12_0 : w11.cell? ⟨gb800101, 0, none⟩ = some (.int .i64 x800102000_1) := (blk_cell BK800101.out 0).trans rfl; have hcz12_1 : w11.cell? ⟨gb800101, 1, none⟩ = some (.int .i64 x800102001_1) := (blk_cell BK800101.out 1).trans rfl; have hcz12_2 : w11.cell? ⟨gb800101, 2, none⟩ = some (.int .i64 x800102002_1) := (blk_cell BK800101.out 2).trans rfl; have hcz12_3 : w11.cell? ⟨gb800101, 3, none⟩ = some (.int .i64 x800102003_1) := (blk_cell BK800101.out 3).trans rfl; have hcz12_4 : w11.cell? ⟨gb800101, 4, none⟩ = some (.int .i64 x800102004_1) := (blk_cell BK800101.out 4).trans rfl; have hfz12_0 := blk_frozen BK800101.out 0; have hfz12_1 := blk_frozen BK800101.out 1; have hfz12_2 := blk_frozen BK800101.out 2; have hfz12_3 := blk_frozen BK800101.out 3; have hfz12_4 := blk_frozen BK800101.out 4)); try go_wp2_with (first | (go_at_call 81; (with_reducible refine (larderref04_at.calls 6 (wrap64 (x3_1 + 1)) 0 t800108 t800109 t800110 t800111 t800112 _ A10.out).mono ?_); rintro e w11 ⟨rfl, hb⟩; have n0_ := Aside0.mk (blk_below (g := gb800101) (o := .cells #[.int .i64 x800102000_1, .int .i64 x800102001_1, .int .i64 x800102002_1, .int .i64 x800102003_1, .int .i64 x800102004_1] 46 (0, 0)) (by (with_reducible repeat (first | refine blk_drewN ?_ _ | refine blk_drew ?_ | refine blk_alloc ?_ _)); exact BK800101.out) hb); have n1_ := Aside0.mk (below_step (by repeat (first | (with_reducible first | exact HB.out | apply below_alloc | apply pw_below_drewN | apply below_drew1 | refine below_set ?_ GE800101.out) | exact HB.out)) hb); clear BK800101; clear HB; have BK800101 := n0_; have HB := n1_; clear n0_ n1_; (try clear hb); (try clear hb2); (try clear hk); (try clear hi); have hcz12_0 : w11.cell? ⟨gb800101, 0, none⟩ = some (.int .i64 x800102000_1) := (blk_cell BK800101.out 0).trans rfl; have hcz12_1 : w11.cell? ⟨gb800101, 1, none⟩ = some (.int .i64 x800102001_1) := (blk_cell BK800101.out 1).trans rfl; have hcz12_2 : w11.cell? ⟨gb800101, 2, none⟩ = some (.int .i64 x800102002_1) := (blk_cell BK800101.out 2).trans rfl; have hcz12_3 : w11.cell? ⟨gb800101, 3, none⟩ = some (.int .i64 x800102003_1) := (blk_cell BK800101.out 3).trans rfl; have hcz12_4 : w11.cell? ⟨gb800101, 4, none⟩ = some (.int .i64 x800102004_1) := (blk_cell BK800101.out 4).trans rfl; have hfz12_0 := blk_frozen BK800101.out 0; have hfz12_1 := blk_frozen BK800101.out 1; have hfz12_2 := blk_frozen BK800101.out 2; have hfz12_3 := blk_frozen BK800101.out 3; have hfz12_4 := blk_frozen BK800101.out 4)))
              refine bodyPost_ret (results_cell_row rfl _ _ gb800101 46 #[.int .i64 t800108, .int .i64 t800109, .int .i64 t800110, .int .i64 t800111, .int .i64 t800112] (0, 0) _ rfl (by (with_reducible repeat (first | refine blk_drewN ?_ _ | refine blk_drew ?_ | refine blk_alloc ?_ _)); refine blk_put (cs := #[.int .i64 t800108, .int .i64 t800109, .int .i64 t800110, .int .i64 t800111, .int .i64 x800102004_1]) ?_ 4 _ rfl; (with_reducible repeat (first | refine blk_drewN ?_ _ | refine blk_drew ?_ | refine blk_alloc ?_ _)); refine blk_put (cs := #[.int .i64 t800108, .int .i64 t800109, .int .i64 t800110, .int .i64 x800102003_1, .int .i64 x800102004_1]) ?_ 3 _ rfl; (with_reducible repeat (first | refine blk_drewN ?_ _ | refine blk_drew ?_ | refine blk_alloc ?_ _)); refine blk_put (cs := #[.int .i64 t800108, .int .i64 t800109, .int .i64 x800102002_1, .int .i64 x800102003_1, .int .i64 x800102004_1]) ?_ 2 _ rfl; (with_reducible repeat (first | refine blk_drewN ?_ _ | refine blk_drew ?_ | refine blk_alloc ?_ _)); refine blk_put (cs := #[.int .i64 t800108, .int .i64 x800102001_1, .int .i64 x800102002_1, .int .i64 x800102003_1, .int .i64 x800102004_1]) ?_ 1 _ rfl; (with_reducible repeat (first | refine blk_drewN ?_ _ | refine blk_drew ?_ | refine blk_alloc ?_ _)); refine blk_put (cs := #[.int .i64 x800102000_1, .int .i64 x800102001_1, .int .i64 x800102002_1, .int .i64 x800102003_1, .int .i64 x800102004_1]) ?_ 0 _ rfl; (with_reducible repeat (first | refine blk_drewN ?_ _ | refine blk_drew ?_ | refine blk_alloc ?_ _)); exact BK800101.out) Tryz.underlying46 rfl (by kernel_rfl)) rfl ?_
              exact ⟨by first | rfl | (simp [errW_none, errW_some] <;> rfl) | (simp [*, errW_none, errW_some] <;> rfl), by repeat (first | (with_reducible first | exact HB.out | apply below_alloc | apply pw_below_drewN | apply below_drew1 | refine below_set ?_ GE800101.out) | exact HB.out)⟩
            · rw [if_neg c9] at H
              have c9b0 : (((rd_L2 l0 x3_1).length : Int) == 0) = false := beq_eq_false_iff_ne.mpr c9
              have c9b1 : (((rd_L2 l0 x3_1).length : Int) != 0) = true := bne_iff_ne.mpr c9
              have c9b2 : ¬ ((rd_L2 l0 x3_1) = []) := fun h_ => c9 (by rw [h_]; rfl)
              by_cases c13 : ((rd_L2 l0 x3_1).length : Int) > 64
              · rw [if_pos c13] at H
                have c13b0 : decide (64 < ((rd_L2 l0 x3_1).length : Int)) = true := decide_eq_true c13
                have c13b1 : decide (64 < (rd_L2 l0 x3_1).length) = true := decide_eq_true (by omega)
                clear c13
                replace H := Option.bind_eq_some_iff.mp H
                obtain ⟨⟨t800114, t800115, t800116, t800117, t800118⟩, A140, H⟩ := H
                replace H : (some (t800114, t800115, t800116, t800117, t800118)) = some (r1, r2, r3, r4, r5) := H
                have A14 := Aside0.mk A140
                clear A140
                simp only [Option.some.injEq, Prod.mk.injEq] at H
                obtain ⟨rfl, rfl, rfl, rfl, rfl⟩ := H
                have p800107 : 0 ≤ (x3_1 : Int) := of_decide_eq_true (by first | (with_reducible assumption) | assumption)
                have q800107 : x3_1 < (l0.length : Int) := of_decide_eq_true (by first | (with_reducible assumption) | assumption)
                obtain ⟨ad800107, A800107_0, c800107_0, e800107, hx800107_0, hl800107_0, hi800107_0⟩ := at_L2 HR0.out x3_1 p800107 q800107
                cases e800107
                replace hx800107_0 := (HB.out.cell (World.block_lt_of_cell? w _ hx800107_0)).trans hx800107_0
                have HR800107_0 := Aside0.mk hi800107_0
                have HC800107_0 := Aside0.mk hl800107_0
                clear hi800107_0 hl800107_0
                replace p800107 := eq_true p800107
                replace q800107 := eq_true q800107
                have p800113 : 0 ≤ (x3_1 : Int) := of_decide_eq_true (by first | (with_reducible assumption) | assumption)
                have q800113 : x3_1 < (l0.length : Int) := of_decide_eq_true (by first | (with_reducible assumption) | assumption)
                obtain ⟨ad800113, A800113_0, c800113_0, e800113, hx800113_0, hl800113_0, hi800113_0⟩ := at_L2 HR0.out x3_1 p800113 q800113
                obtain rfl : ad800107 = ad800113 := (by injection e800113)
                replace hx800113_0 := (HB.out.cell (World.block_lt_of_cell? w _ hx800113_0)).trans hx800113_0
                have HR800113_0 := Aside0.mk hi800113_0
                have HC800113_0 := Aside0.mk hl800113_0
                clear hi800113_0 hl800113_0
                replace p800113 := eq_true p800113
                replace q800113 := eq_true q800113
                have ea_ := Option.some.inj (hx800107_0.symm.trans hx800113_0)
                injection ea_ with ea_ en_ ec_
                subst ea_
                subst ec_
                clear en_
                go_wp2_with (first | (go_at_call 81; (with_reducible refine (larderref04_at.calls 6 (wrap64 (x3_1 + 1)) 64 t800114 t800115 t800116 t800117 t800118 _ A14.out).mono ?_); rintro e w15 ⟨rfl, hb⟩; have n0_ := Aside0.mk (blk_below (g := gb800101) (o := .cells #[.int .i64 x800102000_1, .int .i64 x800102001_1, .int .i64 x800102002_1, .int .i64 x800102003_1, .int .i64 x800102004_1] 46 (0, 0)) (by (with_reducible repeat (first | refine blk_drewN ?_ _ | refine blk_drew ?_ | refine blk_alloc ?_ _)); exact BK800101.out) hb); have n1_ := Aside0.mk (below_step (by repeat (first | (with_reducible first | exact HB.out | apply below_alloc | apply pw_below_drewN | apply below_drew1 | refine below_set ?_ GE800101.out) | exact HB.out)) hb); clear BK800101; clear HB; have BK800101 := n0_; have HB := n1_; clear n0_ n1_; (try clear hb); (try clear hb2); (try clear hk); (try clear hi); have hcz16_0 : w15.cell? ⟨gb800101, 0, none⟩ = some (.int .i64 x800102000_1) := (blk_cell BK800101.out 0).trans rfl; have hcz16_1 : w15.cell? ⟨gb800101, 1, none⟩ = some (.int .i64 x800102001_1) := (blk_cell BK800101.out 1).trans rfl; have hcz16_2 : w15.cell? ⟨gb800101, 2, none⟩ = some (.int .i64 x800102002_1) := (blk_cell BK800101.out 2).trans rfl; have hcz16_3 : w15.cell? ⟨gb800101, 3, none⟩ = some (.int .i64 x800102003_1) := (blk_cell BK800101.out 3).trans rfl; have hcz16_4 : w15.cell? ⟨gb800101, 4, none⟩ = some (.int .i64 x800102004_1) := (blk_cell BK800101.out 4).trans rfl; have hfz16_0 := blk_frozen BK800101.out 0; have hfz16_1 := blk_frozen BK800101.out 1; have hfz16_2 := blk_frozen BK800101.out 2; have hfz16_3 := blk_frozen BK800101.out 3; have hfz16_4 := blk_frozen BK800101.out 4))
                repeat (go_quiet (first | (go_at_call 81; (with_reducible refine (larderref04_at.calls 6 (wrap64 (x3_1 + 1)) 64 t800114 t800115 t800116 t800117 t800118 _ A14.out).mono ?_); rintro e w15 ⟨rfl, hb⟩; have n0_ := Aside0.mk (blk_below (g := gb800101) (o := .cells #[.int .i64 x800102000_1, .int .i64 x800102001_1, .int .i64 x800102002_1, .int .i64 x800102003_1, .int .i64 x800102004_1] 46 (0, 0)) (by (with_reducible repeat (first | refine blk_drewN ?_ _ | refine blk_drew ?_ | refine blk_alloc ?_ _)); exact BK800101.out) hb); have n1_ := Aside0.mk (below_step (by repeat (first | (with_reducible first | exact HB.out | apply below_alloc | apply pw_below_drewN | apply below_drew1 | refine below_set ?_ GE800101.out) | exact HB.out)) hb); clear BK800101; clear HB; have BK800101 := n0_; have HB := n1_; clear n0_ n1_; (try clear hb); (try clear hb2); (try clear hk); (try clear hi); have hcz16_0 : w15.cell? ⟨gb800101, 0, none⟩ = some (.int .i64 x800102000_1) := (blk_cell BK800101.out 0).trans rfl; have hcz16_1 : w15.cell? ⟨gb800101, 1, none⟩ = some (.int .i64 x800102001_1) := (blk_cell BK800101.out 1).trans rfl; have hcz16_2 : w15.cell? ⟨gb800101, 2, none⟩ = some (.int .i64 x800102002_1) := (blk_cell BK800101.out 2).trans rfl; have hcz16_3 : w15.cell? ⟨gb800101, 3, none⟩ = some (.int .i64 x800102003_1) := (blk_cell BK800101.out 3).trans rfl; have hcz16_4 : w15.cell? ⟨gb800101, 4, none⟩ = some (.int .i64 x800102004_1) := (blk_cell BK800101.out 4).trans rfl; have hfz16_0 := blk_frozen BK800101.out 0; have hfz16_1 := blk_frozen BK800101.out 1; have hfz16_2 := blk_frozen BK800101.out 2; have hfz16_3 := blk_frozen BK800101.out 3; have hfz16_4 := blk_frozen BK800101.out 4)); try go_wp2_with (first | (go_at_call 81; (with_reducible refine (larderref04_at.calls 6 (wrap64 (x3_1 + 1)) 64 t800114 t800115 t800116 t800117 t800118 _ A14.out).mono ?_); rintro e w15 ⟨rfl, hb⟩; have n0_ := Aside0.mk (blk_below (g := gb800101) (o := .cells #[.int .i64 x800102000_1, .int .i64 x800102001_1, .int .i64 x800102002_1, .int .i64 x800102003_1, .int .i64 x800102004_1] 46 (0, 0)) (by (with_reducible repeat (first | refine blk_drewN ?_ _ | refine blk_drew ?_ | refine blk_alloc ?_ _)); exact BK800101.out) hb); have n1_ := Aside0.mk (below_step (by repeat (first | (with_reducible first | exact HB.out | apply below_alloc | apply pw_below_drewN | apply below_drew1 | refine below_set ?_ GE800101.out) | exact HB.out)) hb); clear BK800101; clear HB; have BK800101 := n0_; have HB := n1_; clear n0_ n1_; (try clear hb); (try clear hb2); (try clear hk); (try clear hi); have hcz16_0 : w15.cell? ⟨gb800101, 0, none⟩ = some (.int .i64 x800102000_1) := (blk_cell BK800101.out 0).trans rfl; have hcz16_1 : w15.cell? ⟨gb800101, 1, none⟩ = some (.int .i64 x800102001_1) := (blk_cell BK800101.out 1).trans rfl; have hcz16_2 : w15.cell? ⟨gb800101, 2, none⟩ = some (.int .i64 x800102002_1) := (blk_cell BK800101.out 2).trans rfl; have hcz16_3 : w15.cell? ⟨gb800101, 3, none⟩ = some (.int .i64 x800102003_1) := (blk_cell BK800101.out 3).trans rfl; have hcz16_4 : w15.cell? ⟨gb800101, 4, none⟩ = some (.int .i64 x800102004_1) := (blk_cell BK800101.out 4).trans rfl; have hfz16_0 := blk_frozen BK800101.out 0; have hfz16_1 := blk_frozen BK800101.out 1; have hfz16_2 := blk_frozen BK800101.out 2; have hfz16_3 := blk_frozen BK800101.out 3; have hfz16_4 := blk_frozen BK800101.out 4)))
                refine bodyPost_ret (results_cell_row rfl _ _ gb800101 46 #[.int .i64 t800114, .int .i64 t800115, .int .i64 t800116, .int .i64 t800117, .int .i64 t800118] (0, 0) _ rfl (by (with_reducible repeat (first | refine blk_drewN ?_ _ | refine blk_drew ?_ | refine blk_alloc ?_ _)); refine blk_put (cs := #[.int .i64 t800114, .int .i64 t800115, .int .i64 t800116, .int .i64 t800117, .int .i64 x800102004_1]) ?_ 4 _ rfl; (with_reducible repeat (first | refine blk_drewN ?_ _ | refine blk_drew ?_ | refine blk_alloc ?_ _)); refine blk_put (cs := #[.int .i64 t800114, .int .i64 t800115, .int .i64 t800116, .int .i64 x800102003_1, .int .i64 x800102004_1]) ?_ 3 _ rfl; (with_reducible repeat (first | refine blk_drewN ?_ _ | refine blk_drew ?_ | refine blk_alloc ?_ _)); refine blk_put (cs := #[.int .i64 t800114, .int .i64 t800115, .int .i64 x800102002_1, .int .i64 x800102003_1, .int .i64 x800102004_1]) ?_ 2 _ rfl; (with_reducible repeat (first | refine blk_drewN ?_ _ | refine blk_drew ?_ | refine blk_alloc ?_ _)); refine blk_put (cs := #[.int .i64 t800114, .int .i64 x800102001_1, .int .i64 x800102002_1, .int .i64 x800102003_1, .int .i64 x800102004_1]) ?_ 1 _ rfl; (with_reducible repeat (first | refine blk_drewN ?_ _ | refine blk_drew ?_ | refine blk_alloc ?_ _)); refine blk_put (cs := #[.int .i64 x800102000_1, .int .i64 x800102001_1, .int .i64 x800102002_1, .int .i64 x800102003_1, .int .i64 x800102004_1]) ?_ 0 _ rfl; (with_reducible repeat (first | refine blk_drewN ?_ _ | refine blk_drew ?_ | refine blk_alloc ?_ _)); exact BK800101.out) Tryz.underlying46 rfl (by kernel_rfl)) rfl ?_
                exact ⟨by first | rfl | (simp [errW_none, errW_some] <;> rfl) | (simp [*, errW_none, errW_some] <;> rfl), by repeat (first | (with_reducible first | exact HB.out | apply below_alloc | apply pw_below_drewN | apply below_drew1 | refine below_set ?_ GE800101.out) | exact HB.out)⟩
              · rw [if_neg c13] at H
                have c13b0 : decide (64 < ((rd_L2 l0 x3_1).length : Int)) = false := decide_eq_false c13
                have c13b1 : decide (64 < (rd_L2 l0 x3_1).length) = false := decide_eq_false (by omega)
                clear c13
                by_cases c17 : 0 < (l0.length : Int)
                · rw [if_pos c17] at H
                  have c17b0 : decide (0 < (l0.length : Int)) = true := decide_eq_true c17
                  have c17b1 : decide (0 < l0.length) = true := decide_eq_true (by omega)
                  clear c17
                  by_cases c18 : ((rd_L2 l0 x3_1).length : Int) = ((rd_L2 l0 0).length : Int)
                  · rw [if_pos c18] at H
                    have c18b0 : (((rd_L2 l0 x3_1).length : Int) == ((rd_L2 l0 0).length : Int)) = true := beq_iff_eq.mpr c18
                    have c18b1 : (((rd_L2 l0 x3_1).length : Int) != ((rd_L2 l0 0).length : Int)) = false := bne_eq_false_iff_eq.mpr c18
                    have c18b2 : ((rd_L2 l0 x3_1).length == (rd_L2 l0 0).length) = true := by first | simpa using c18 | (simp at c18 ⊢; omega)
                    clear c18
                    have H' := Aside0.mk H
                    clear H
                    have p800107 : 0 ≤ (x3_1 : Int) := of_decide_eq_true (by first | (with_reducible assumption) | assumption)
                    have q800107 : x3_1 < (l0.length : Int) := of_decide_eq_true (by first | (with_reducible assumption) | assumption)
                    obtain ⟨ad800107, A800107_0, c800107_0, e800107, hx800107_0, hl800107_0, hi800107_0⟩ := at_L2 HR0.out x3_1 p800107 q800107
                    cases e800107
                    replace hx800107_0 := (HB.out.cell (World.block_lt_of_cell? w _ hx800107_0)).trans hx800107_0
                    have HR800107_0 := Aside0.mk hi800107_0
                    have HC800107_0 := Aside0.mk hl800107_0
                    clear hi800107_0 hl800107_0
                    replace p800107 := eq_true p800107
                    replace q800107 := eq_true q800107
                    have p800113 : 0 ≤ (x3_1 : Int) := of_decide_eq_true (by first | (with_reducible assumption) | assumption)
                    have q800113 : x3_1 < (l0.length : Int) := of_decide_eq_true (by first | (with_reducible assumption) | assumption)
                    obtain ⟨ad800113, A800113_0, c800113_0, e800113, hx800113_0, hl800113_0, hi800113_0⟩ := at_L2 HR0.out x3_1 p800113 q800113
                    obtain rfl : ad800107 = ad800113 := (by injection e800113)
                    replace hx800113_0 := (HB.out.cell (World.block_lt_of_cell? w _ hx800113_0)).trans hx800113_0
                    have HR800113_0 := Aside0.mk hi800113_0
                    have HC800113_0 := Aside0.mk hl800113_0
                    clear hi800113_0 hl800113_0
                    replace p800113 := eq_true p800113
                    replace q800113 := eq_true q800113
                    have ea_ := Option.some.inj (hx800107_0.symm.trans hx800113_0)
                    injection ea_ with ea_ en_ ec_
                    subst ea_
                    subst ec_
                    clear en_
                    have p800119 : 0 ≤ (x3_1 : Int) := of_decide_eq_true (by first | (with_reducible assumption) | assumption)
                    have q800119 : x3_1 < (l0.length : Int) := of_decide_eq_true (by first | (with_reducible assumption) | assumption)
                    obtain ⟨ad800119, A800119_0, c800119_0, e800119, hx800119_0, hl800119_0, hi800119_0⟩ := at_L2 HR0.out x3_1 p800119 q800119
                    obtain rfl : ad800107 = ad800119 := (by injection e800119)
                    replace hx800119_0 := (HB.out.cell (World.block_lt_of_cell? w _ hx800119_0)).trans hx800119_0
                    have HR800119_0 := Aside0.mk hi800119_0
                    have HC800119_0 := Aside0.mk hl800119_0
                    clear hi800119_0 hl800119_0
                    replace p800119 := eq_true p800119
                    replace q800119 := eq_true q800119
                    have ea_ := Option.some.inj (hx800107_0.symm.trans hx800119_0)
                    injection ea_ with ea_ en_ ec_
                    subst ea_
                    subst ec_
                    clear en_
                    have p800120 : 0 ≤ (0 : Int) := (by omega)
                    have q800120 : 0 < (l0.length : Int) := of_decide_eq_true (by first | (with_reducible assumption) | assumption)
                    obtain ⟨ad800120, A800120_0, c800120_0, e800120, hx800120_0, hl800120_0, hi800120_0⟩ := at_L2 HR0.out 0 p800120 q800120
                    obtain rfl : ad800107 = ad800120 := (by injection e800120)
                    have qi800120 : (0 < l0.length) = True := eq_true (by omega)
                    (try rw [show ((0 : Int)).toNat = 0 from rfl] at hx800120_0)
                    (try rw [Addr.add_zero'] at hx800120_0)
                    replace hx800120_0 := (HB.out.cell (World.block_lt_of_cell? w _ hx800120_0)).trans hx800120_0
                    have HR800120_0 := Aside0.mk hi800120_0
                    have HC800120_0 := Aside0.mk hl800120_0
                    clear hi800120_0 hl800120_0
                    replace p800120 := eq_true p800120
                    replace q800120 := eq_true q800120
                    go_wp2
                    repeat (go_quiet (fail); try go_wp2)
                    go_loopg [4] k1 (fun kq v4 w' => ∃ (x4_2 : Int) (x800102000_2 : Int) (x800102001_2 : Int) (x800102002_2 : Int) (x800102003_2 : Int) (x800102004_2 : Int), v4 = .int .i64 x4_2 ∧ Aside0 (larderref04_wrong.l1 kq l0 x3_1 x4_2 = some (r1, r2, r3, r4, r5)) ∧ Aside0 (kq ≤ k1) ∧ Aside0 (w'.heap[gb800101]? = some (.cells #[.int .i64 x800102000_2, .int .i64 x800102001_2, .int .i64 x800102002_2, .int .i64 x800102003_2, .int .i64 x800102004_2] 46 (0, 0))) ∧ Aside0 (Below w.heap.size w w'))
                    case atStart => exact ⟨(0), (x800102000_1), (x800102001_1), (x800102002_1), (x800102003_1), (x800102004_1), (by first | rfl | (simp; done) | (simp [*]; done)), H', ⟨Nat.le_refl _⟩, ⟨by (with_reducible repeat (first | refine blk_drewN ?_ _ | refine blk_drew ?_ | refine blk_alloc ?_ _)); exact BK800101.out⟩, ⟨by repeat (first | (with_reducible first | exact HB.out | apply below_alloc | apply pw_below_drewN | apply below_drew1 | refine below_set ?_ GE800101.out) | exact HB.out)⟩⟩
                    case round =>
                      clear H'
                      try clear c1
                      try clear p2
                      try clear c3
                      try clear c3b0
                      try clear c4
                      try clear c4b0
                      try clear c4b1
                      try clear p6
                      try clear c8
                      try clear c8b0
                      try clear p8
                      try clear q8
                      try clear hx8
                      try clear qi8
                      try clear c9
                      try clear c9b0
                      try clear c9b1
                      try clear c9b2
                      try clear c13
                      try clear c13b0
                      try clear c13b1
                      try clear c17
                      try clear c17b0
                      try clear c17b1
                      try clear c18
                      try clear c18b0
                      try clear c18b1
                      try clear c18b2
                      try clear hcz12_0
                      try clear hcz12_1
                      try clear hcz12_2
                      try clear hcz12_3
                      try clear hcz12_4
                      try clear hcz16_0
                      try clear hcz16_1
                      try clear hcz16_2
                      try clear hcz16_3
                      try clear hcz16_4
                      try clear hcz7_0
                      try clear hcz7_1
                      try clear hcz7_2
                      try clear hcz7_3
                      try clear hcz7_4
                      try clear hfz12_0
                      try clear hfz12_1
                      try clear hfz12_2
                      try clear hfz12_3
                      try clear hfz12_4
                      try clear hfz16_0
                      try clear hfz16_1
                      try clear hfz16_2
                      try clear hfz16_3
                      try clear hfz16_4
                      try clear hfz7_0
                      try clear hfz7_1
                      try clear hfz7_2
                      try clear hfz7_3
                      try clear hfz7_4
                      try clear hx800107_0
                      try clear hx800113_0
                      try clear hx800119_0
                      try clear hx800120_0
                      try clear p2
                      try clear p800107
                      try clear p800113
                      try clear p800119
                      try clear p800120
                      try clear q800107
                      try clear q800113
                      try clear q800119
                      try clear q800120
                      obtain ⟨x4_2, x800102000_2, x800102001_2, x800102002_2, x800102003_2, x800102004_2, rfl, HA, HK2, BK800101, HB⟩ := hrel
                      cases gk with
                      | zero => exact absurd HA.out (by simp [larderref04_wrong.l1])
                      | succ k2 =>
                        have H := HA.out
                        clear HA
                        simp only [larderref04_wrong.l1] at H
                        by_cases c19 : 0 ≤ x3_1
                        · rw [if_pos c19] at H
                          have c19b0 : decide (0 ≤ x3_1) = true := decide_eq_true c19
                          clear c19
                          by_cases c20 : x3_1 < (l0.length : Int)
                          · rw [if_pos c20] at H
                            have c20b0 : decide (x3_1 < (l0.length : Int)) = true := decide_eq_true c20
                            clear c20
                            by_cases c21 : x4_2 < ((rd_L2 l0 x3_1).length : Int)
                            · rw [if_pos c21] at H
                              have c21b0 : decide (x4_2 < ((rd_L2 l0 x3_1).length : Int)) = true := decide_eq_true c21
                              clear c21
                              by_cases c22 : 0 ≤ x4_2
                              · rw [if_pos c22] at H
                                have c22b0 : decide (0 ≤ x4_2) = true := decide_eq_true c22
                                clear c22
                                by_cases c23 : ((rdOf ByteArray.empty (rd_L2 l0 x3_1) x4_2).size : Int) > 4096
                                · rw [if_pos c23] at H
                                  have c23b0 : decide (4096 < ((rdOf ByteArray.empty (rd_L2 l0 x3_1) x4_2).size : Int)) = true := decide_eq_true c23
                                  have c23b1 : decide (4096 < (rdOf ByteArray.empty (rd_L2 l0 x3_1) x4_2).size) = true := decide_eq_true (by omega)
                                  clear c23
                                  replace H := Option.bind_eq_some_iff.mp H
                                  obtain ⟨⟨t800129, t800130, t800131, t800132, t800133⟩, A240, H⟩ := H
                                  replace H : (some (t800129, t800130, t800131, t800132, t800133)) = some (r1, r2, r3, r4, r5) := H
                                  have A24 := Aside0.mk A240
                                  clear A240
                                  simp only [Option.some.injEq, Prod.mk.injEq] at H
                                  obtain ⟨rfl, rfl, rfl, rfl, rfl⟩ := H
                                  have p800126 : 0 ≤ (x3_1 : Int) := of_decide_eq_true (by first | (with_reducible assumption) | assumption)
                                  have q800126 : x3_1 < (l0.length : Int) := of_decide_eq_true (by first | (with_reducible assumption) | assumption)
                                  obtain ⟨ad800126, A800126_0, c800126_0, e800126, hx800126_0, hl800126_0, hi800126_0⟩ := at_L2 HR0.out x3_1 p800126 q800126
                                  obtain rfl : ad800107 = ad800126 := (by injection e800126)
                                  replace hx800126_0 := (HB.out.cell (World.block_lt_of_cell? w _ hx800126_0)).trans hx800126_0
                                  have HR800126_0 := Aside0.mk hi800126_0
                                  have HC800126_0 := Aside0.mk hl800126_0
                                  clear hi800126_0 hl800126_0
                                  replace p800126 := eq_true p800126
                                  replace q800126 := eq_true q800126
                                  have p800127 : 0 ≤ (x3_1 : Int) := of_decide_eq_true (by first | (with_reducible assumption) | assumption)
                                  have q800127 : x3_1 < (l0.length : Int) := of_decide_eq_true (by first | (with_reducible assumption) | assumption)
                                  obtain ⟨ad800127, A800127_0, c800127_0, e800127, hx800127_0, hl800127_0, hi800127_0⟩ := at_L2 HR0.out x3_1 p800127 q800127
                                  obtain rfl : ad800107 = ad800127 := (by injection e800127)
                                  replace hx800127_0 := (HB.out.cell (World.block_lt_of_cell? w _ hx800127_0)).trans hx800127_0
                                  have HR800127_0 := Aside0.mk hi800127_0
                                  have HC800127_0 := Aside0.mk hl800127_0
                                  clear hi800127_0 hl800127_0
                                  replace p800127 := eq_true p800127
                                  replace q800127 := eq_true q800127
                                  have ea_ := Option.some.inj (hx800126_0.symm.trans hx800127_0)
                                  injection ea_ with ea_ en_ ec_
                                  subst ea_
                                  subst ec_
                                  clear en_
                                  have p800128 : 0 ≤ (x4_2 : Int) := of_decide_eq_true (by first | (with_reducible assumption) | assumption)
                                  have q800128 : x4_2 < ((rd_L2 l0 x3_1).length : Int) := of_decide_eq_true (by first | (with_reducible assumption) | assumption)
                                  obtain ⟨ad800128, e800128, hx800128_0⟩ := Kd.at_string HR800127_0.out x4_2 p800128 q800128
                                  cases e800128
                                  replace hx800128_0 := (HB.out.cell (World.block_lt_of_cell? w _ hx800128_0)).trans hx800128_0
                                  replace p800128 := eq_true p800128
                                  replace q800128 := eq_true q800128
                                  go_wp2_with (first | (go_at_call 81; (with_reducible refine (larderref04_at.calls 5 (wrap64 (x3_1 + 1)) x4_2 t800129 t800130 t800131 t800132 t800133 _ A24.out).mono ?_); rintro e w25 ⟨rfl, hb⟩; have n0_ := Aside0.mk (blk_below (g := gb800101) (o := .cells #[.int .i64 x800102000_2, .int .i64 x800102001_2, .int .i64 x800102002_2, .int .i64 x800102003_2, .int .i64 x800102004_2] 46 (0, 0)) (by (with_reducible repeat (first | refine blk_drewN ?_ _ | refine blk_drew ?_ | refine blk_alloc ?_ _)); exact BK800101.out) hb); have n1_ := Aside0.mk (below_step (by repeat (first | (with_reducible first | exact HB.out | apply below_alloc | apply pw_below_drewN | apply below_drew1 | refine below_set ?_ GE800101.out) | exact HB.out)) hb); clear BK800101; clear HB; have BK800101 := n0_; have HB := n1_; clear n0_ n1_; (try clear hb); (try clear hb2); (try clear hk); (try clear hi); have hcz26_0 : w25.cell? ⟨gb800101, 0, none⟩ = some (.int .i64 x800102000_2) := (blk_cell BK800101.out 0).trans rfl; have hcz26_1 : w25.cell? ⟨gb800101, 1, none⟩ = some (.int .i64 x800102001_2) := (blk_cell BK800101.out 1).trans rfl; have hcz26_2 : w25.cell? ⟨gb800101, 2, none⟩ = some (.int .i64 x800102002_2) := (blk_cell BK800101.out 2).trans rfl; have hcz26_3 : w25.cell? ⟨gb800101, 3, none⟩ = some (.int .i64 x800102003_2) := (blk_cell BK800101.out 3).trans rfl; have hcz26_4 : w25.cell? ⟨gb800101, 4, none⟩ = some (.int .i64 x800102004_2) := (blk_cell BK800101.out 4).trans rfl; have hfz26_0 := blk_frozen BK800101.out 0; have hfz26_1 := blk_frozen BK800101.out 1; have hfz26_2 := blk_frozen BK800101.out 2; have hfz26_3 := blk_frozen BK800101.out 3; have hfz26_4 := blk_frozen BK800101.out 4))
                                  repeat (go_quiet (first | (go_at_call 81; (with_reducible refine (larderref04_at.calls 5 (wrap64 (x3_1 + 1)) x4_2 t800129 t800130 t800131 t800132 t800133 _ A24.out).mono ?_); rintro e w25 ⟨rfl, hb⟩; have n0_ := Aside0.mk (blk_below (g := gb800101) (o := .cells #[.int .i64 x800102000_2, .int .i64 x800102001_2, .int .i64 x800102002_2, .int .i64 x800102003_2, .int .i64 x800102004_2] 46 (0, 0)) (by (with_reducible repeat (first | refine blk_drewN ?_ _ | refine blk_drew ?_ | refine blk_alloc ?_ _)); exact BK800101.out) hb); have n1_ := Aside0.mk (below_step (by repeat (first | (with_reducible first | exact HB.out | apply below_alloc | apply pw_below_drewN | apply below_drew1 | refine below_set ?_ GE800101.out) | exact HB.out)) hb); clear BK800101; clear HB; have BK800101 := n0_; have HB := n1_; clear n0_ n1_; (try clear hb); (try clear hb2); (try clear hk); (try clear hi); have hcz26_0 : w25.cell? ⟨gb800101, 0, none⟩ = some (.int .i64 x800102000_2) := (blk_cell BK800101.out 0).trans rfl; have hcz26_1 : w25.cell? ⟨gb800101, 1, none⟩ = some (.int .i64 x800102001_2) := (blk_cell BK800101.out 1).trans rfl; have hcz26_2 : w25.cell? ⟨gb800101, 2, none⟩ = some (.int .i64 x800102002_2) := (blk_cell BK800101.out 2).trans rfl; have hcz26_3 : w25.cell? ⟨gb800101, 3, none⟩ = some (.int .i64 x800102003_2) := (blk_cell BK800101.out 3).trans rfl; have hcz26_4 : w25.cell? ⟨gb800101, 4, none⟩ = some (.int .i64 x800102004_2) := (blk_cell BK800101.out 4).trans rfl; have hfz26_0 := blk_frozen BK800101.out 0; have hfz26_1 := blk_frozen BK800101.out 1; have hfz26_2 := blk_frozen BK800101.out 2; have hfz26_3 := blk_frozen BK800101.out 3; have hfz26_4 := blk_frozen BK800101.out 4)); try go_wp2_with (first | (go_at_call 81; (with_reducible refine (larderref04_at.calls 5 (wrap64 (x3_1 + 1)) x4_2 t800129 t800130 t800131 t800132 t800133 _ A24.out).mono ?_); rintro e w25 ⟨rfl, hb⟩; have n0_ := Aside0.mk (blk_below (g := gb800101) (o := .cells #[.int .i64 x800102000_2, .int .i64 x800102001_2, .int .i64 x800102002_2, .int .i64 x800102003_2, .int .i64 x800102004_2] 46 (0, 0)) (by (with_reducible repeat (first | refine blk_drewN ?_ _ | refine blk_drew ?_ | refine blk_alloc ?_ _)); exact BK800101.out) hb); have n1_ := Aside0.mk (below_step (by repeat (first | (with_reducible first | exact HB.out | apply below_alloc | apply pw_below_drewN | apply below_drew1 | refine below_set ?_ GE800101.out) | exact HB.out)) hb); clear BK800101; clear HB; have BK800101 := n0_; have HB := n1_; clear n0_ n1_; (try clear hb); (try clear hb2); (try clear hk); (try clear hi); have hcz26_0 : w25.cell? ⟨gb800101, 0, none⟩ = some (.int .i64 x800102000_2) := (blk_cell BK800101.out 0).trans rfl; have hcz26_1 : w25.cell? ⟨gb800101, 1, none⟩ = some (.int .i64 x800102001_2) := (blk_cell BK800101.out 1).trans rfl; have hcz26_2 : w25.cell? ⟨gb800101, 2, none⟩ = some (.int .i64 x800102002_2) := (blk_cell BK800101.out 2).trans rfl; have hcz26_3 : w25.cell? ⟨gb800101, 3, none⟩ = some (.int .i64 x800102003_2) := (blk_cell BK800101.out 3).trans rfl; have hcz26_4 : w25.cell? ⟨gb800101, 4, none⟩ = some (.int .i64 x800102004_2) := (blk_cell BK800101.out 4).trans rfl; have hfz26_0 := blk_frozen BK800101.out 0; have hfz26_1 := blk_frozen BK800101.out 1; have hfz26_2 := blk_frozen BK800101.out 2; have hfz26_3 := blk_frozen BK800101.out 3; have hfz26_4 := blk_frozen BK800101.out 4)))
                                  refine bodyPost_ret (results_cell_row rfl _ _ gb800101 46 #[.int .i64 t800129, .int .i64 t800130, .int .i64 t800131, .int .i64 t800132, .int .i64 t800133] (0, 0) _ rfl (by (with_reducible repeat (first | refine blk_drewN ?_ _ | refine blk_drew ?_ | refine blk_alloc ?_ _)); refine blk_put (cs := #[.int .i64 t800129, .int .i64 t800130, .int .i64 t800131, .int .i64 t800132, .int .i64 x800102004_2]) ?_ 4 _ rfl; (with_reducible repeat (first | refine blk_drewN ?_ _ | refine blk_drew ?_ | refine blk_alloc ?_ _)); refine blk_put (cs := #[.int .i64 t800129, .int .i64 t800130, .int .i64 t800131, .int .i64 x800102003_2, .int .i64 x800102004_2]) ?_ 3 _ rfl; (with_reducible repeat (first | refine blk_drewN ?_ _ | refine blk_drew ?_ | refine blk_alloc ?_ _)); refine blk_put (cs := #[.int .i64 t800129, .int .i64 t800130, .int .i64 x800102002_2, .int .i64 x800102003_2, .int .i64 x800102004_2]) ?_ 2 _ rfl; (with_reducible repeat (first | refine blk_drewN ?_ _ | refine blk_drew ?_ | refine blk_alloc ?_ _)); refine blk_put (cs := #[.int .i64 t800129, .int .i64 x800102001_2, .int .i64 x800102002_2, .int .i64 x800102003_2, .int .i64 x800102004_2]) ?_ 1 _ rfl; (with_reducible repeat (first | refine blk_drewN ?_ _ | refine blk_drew ?_ | refine blk_alloc ?_ _)); refine blk_put (cs := #[.int .i64 x800102000_2, .int .i64 x800102001_2, .int .i64 x800102002_2, .int .i64 x800102003_2, .int .i64 x800102004_2]) ?_ 0 _ rfl; (with_reducible repeat (first | refine blk_drewN ?_ _ | refine blk_drew ?_ | refine blk_alloc ?_ _)); exact BK800101.out) Tryz.underlying46 rfl (by kernel_rfl)) rfl ?_
                                  exact ⟨by first | rfl | (simp [errW_none, errW_some] <;> rfl) | (simp [*, errW_none, errW_some] <;> rfl), by repeat (first | (with_reducible first | exact HB.out | apply below_alloc | apply pw_below_drewN | apply below_drew1 | refine below_set ?_ GE800101.out) | exact HB.out)⟩
                                · rw [if_neg c23] at H
                                  have c23b0 : decide (4096 < ((rdOf ByteArray.empty (rd_L2 l0 x3_1) x4_2).size : Int)) = false := decide_eq_false c23
                                  have c23b1 : decide (4096 < (rdOf ByteArray.empty (rd_L2 l0 x3_1) x4_2).size) = false := decide_eq_false (by omega)
                                  clear c23
                                  have H' := Aside0.mk H
                                  clear H
                                  have p800126 : 0 ≤ (x3_1 : Int) := of_decide_eq_true (by first | (with_reducible assumption) | assumption)
                                  have q800126 : x3_1 < (l0.length : Int) := of_decide_eq_true (by first | (with_reducible assumption) | assumption)
                                  obtain ⟨ad800126, A800126_0, c800126_0, e800126, hx800126_0, hl800126_0, hi800126_0⟩ := at_L2 HR0.out x3_1 p800126 q800126
                                  obtain rfl : ad800107 = ad800126 := (by injection e800126)
                                  replace hx800126_0 := (HB.out.cell (World.block_lt_of_cell? w _ hx800126_0)).trans hx800126_0
                                  have HR800126_0 := Aside0.mk hi800126_0
                                  have HC800126_0 := Aside0.mk hl800126_0
                                  clear hi800126_0 hl800126_0
                                  replace p800126 := eq_true p800126
                                  replace q800126 := eq_true q800126
                                  have p800127 : 0 ≤ (x3_1 : Int) := of_decide_eq_true (by first | (with_reducible assumption) | assumption)
                                  have q800127 : x3_1 < (l0.length : Int) := of_decide_eq_true (by first | (with_reducible assumption) | assumption)
                                  obtain ⟨ad800127, A800127_0, c800127_0, e800127, hx800127_0, hl800127_0, hi800127_0⟩ := at_L2 HR0.out x3_1 p800127 q800127
                                  obtain rfl : ad800107 = ad800127 := (by injection e800127)
                                  replace hx800127_0 := (HB.out.cell (World.block_lt_of_cell? w _ hx800127_0)).trans hx800127_0
                                  have HR800127_0 := Aside0.mk hi800127_0
                                  have HC800127_0 := Aside0.mk hl800127_0
                                  clear hi800127_0 hl800127_0
                                  replace p800127 := eq_true p800127
                                  replace q800127 := eq_true q800127
                                  have ea_ := Option.some.inj (hx800126_0.symm.trans hx800127_0)
                                  injection ea_ with ea_ en_ ec_
                                  subst ea_
                                  subst ec_
                                  clear en_
                                  have p800128 : 0 ≤ (x4_2 : Int) := of_decide_eq_true (by first | (with_reducible assumption) | assumption)
                                  have q800128 : x4_2 < ((rd_L2 l0 x3_1).length : Int) := of_decide_eq_true (by first | (with_reducible assumption) | assumption)
                                  obtain ⟨ad800128, e800128, hx800128_0⟩ := Kd.at_string HR800127_0.out x4_2 p800128 q800128
                                  cases e800128
                                  replace hx800128_0 := (HB.out.cell (World.block_lt_of_cell? w _ hx800128_0)).trans hx800128_0
                                  replace p800128 := eq_true p800128
                                  replace q800128 := eq_true q800128
                                  go_wp2
                                  repeat (go_quiet (fail); try go_wp2)
                                  go_loopg [6] k2 (fun kq v6 w' => ∃ (x6_3 : Int) (x800102000_3 : Int) (x800102001_3 : Int) (x800102002_3 : Int) (x800102003_3 : Int) (x800102004_3 : Int), v6 = .int .i64 x6_3 ∧ Aside0 (larderref04_wrong.l2 kq l0 x3_1 x4_2 (rdOf ByteArray.empty (rd_L2 l0 x3_1) x4_2) x6_3 = some (r1, r2, r3, r4, r5)) ∧ Aside0 (kq ≤ k2) ∧ Aside0 (w'.heap[gb800101]? = some (.cells #[.int .i64 x800102000_3, .int .i64 x800102001_3, .int .i64 x800102002_3, .int .i64 x800102003_3, .int .i64 x800102004_3] 46 (0, 0))) ∧ Aside0 (Below w.heap.size w w'))
                                  case atStart => exact ⟨(0), (x800102000_2), (x800102001_2), (x800102002_2), (x800102003_2), (x800102004_2), (by first | rfl | (simp; done) | (simp [*]; done)), H', ⟨Nat.le_refl _⟩, ⟨by (with_reducible repeat (first | refine blk_drewN ?_ _ | refine blk_drew ?_ | refine blk_alloc ?_ _)); exact BK800101.out⟩, ⟨by repeat (first | (with_reducible first | exact HB.out | apply below_alloc | apply pw_below_drewN | apply below_drew1 | refine below_set ?_ GE800101.out) | exact HB.out)⟩⟩
                                  case round =>
                                    clear H'
                                    try clear c1
                                    try clear c2
                                    try clear p2
                                    try clear c3
                                    try clear c3b0
                                    try clear c4
                                    try clear c4b0
                                    try clear c4b1
                                    try clear p6
                                    try clear c8
                                    try clear c8b0
                                    try clear p8
                                    try clear q8
                                    try clear hx8
                                    try clear qi8
                                    try clear c9
                                    try clear c9b0
                                    try clear c9b1
                                    try clear c9b2
                                    try clear c13
                                    try clear c13b0
                                    try clear c13b1
                                    try clear c17
                                    try clear c17b0
                                    try clear c17b1
                                    try clear c18
                                    try clear c18b0
                                    try clear c18b1
                                    try clear c18b2
                                    try clear c19
                                    try clear c19b0
                                    try clear c20
                                    try clear c20b0
                                    try clear c21
                                    try clear c21b0
                                    try clear c22
                                    try clear c22b0
                                    try clear c23
                                    try clear c23b0
                                    try clear c23b1
                                    try clear hcz12_0
                                    try clear hcz12_1
                                    try clear hcz12_2
                                    try clear hcz12_3
                                    try clear hcz12_4
                                    try clear hcz16_0
                                    try clear hcz16_1
                                    try clear hcz16_2
                                    try clear hcz16_3
                                    try clear hcz16_4
                                    try clear hcz26_0
                                    try clear hcz26_1
                                    try clear hcz26_2
                                    try clear hcz26_3
                                    try clear hcz26_4
                                    try clear hcz7_0
                                    try clear hcz7_1
                                    try clear hcz7_2
                                    try clear hcz7_3
                                    try clear hcz7_4
                                    try clear hfz12_0
                                    try clear hfz12_1
                                    try clear hfz12_2
                                    try clear hfz12_3
                                    try clear hfz12_4
                                    try clear hfz16_0
                                    try clear hfz16_1
                                    try clear hfz16_2
                                    try clear hfz16_3
                                    try clear hfz16_4
                                    try clear hfz26_0
                                    try clear hfz26_1
                                    try clear hfz26_2
                                    try clear hfz26_3
                                    try clear hfz26_4
                                    try clear hfz7_0
                                    try clear hfz7_1
                                    try clear hfz7_2
                                    try clear hfz7_3
                                    try clear hfz7_4
                                    try clear hx800107_0
                                    try clear hx800113_0
                                    try clear hx800119_0
                                    try clear hx800120_0
                                    try clear hx800126_0
                                    try clear hx800127_0
                                    try clear hx800128_0
                                    try clear p2
                                    try clear p6
                                    try clear p8
                                    try clear p800107
                                    try clear p800113
                                    try clear p800119
                                    try clear p800120
                                    try clear p800126
                                    try clear p800127
                                    try clear p800128
                                    try clear q8
                                    try clear q800107
                                    try clear q800113
                                    try clear q800119
                                    try clear q800120
                                    try clear q800126
                                    try clear q800127
                                    try clear q800128
                                    obtain ⟨x6_3, x800102000_3, x800102001_3, x800102002_3, x800102003_3, x800102004_3, rfl, HA, HK3, BK800101, HB⟩ := hrel
                                    cases gk with
                                    | zero => exact absurd HA.out (by simp [larderref04_wrong.l2])
                                    | succ k3 =>
                                      have H := HA.out
                                      clear HA
                                      simp only [larderref04_wrong.l2] at H
                                      by_cases c27 : x6_3 < ((rdOf ByteArray.empty (rd_L2 l0 x3_1) x4_2).size : Int)
                                      · rw [if_pos c27] at H
                                        have c27b0 : decide (x6_3 < ((rdOf ByteArray.empty (rd_L2 l0 x3_1) x4_2).size : Int)) = true := decide_eq_true c27
                                        clear c27
                                        by_cases c28 : 0 ≤ x6_3
                                        · rw [if_pos c28] at H
                                          have c28b0 : decide (0 ≤ x6_3) = true := decide_eq_true c28
                                          clear c28
                                          replace H := Option.bind_eq_some_iff.mp H
                                          obtain ⟨t800134, A300, H⟩ := H
                                          replace H : (if t800134 = true then (larderref04_wrong.l2 k3 l0 x3_1 x4_2 (rdOf ByteArray.empty (rd_L2 l0 x3_1) x4_2) (wrap64 (x6_3 + 1))) else ((larderref04_at.f 4 (wrap64 (x3_1 + 1)) x4_2).bind fun bt800135 => (some (bt800135.1, bt800135.2.1, bt800135.2.2.1, bt800135.2.2.2.1, bt800135.2.2.2.2)))) = some (r1, r2, r3, r4, r5) := H
                                          have A30 := Aside0.mk A300
                                          clear A300
                                          by_cases c31 : t800134 = true
                                          · subst c31
                                            have H1 : (larderref04_wrong.l2 k3 l0 x3_1 x4_2 (rdOf ByteArray.empty (rd_L2 l0 x3_1) x4_2) (wrap64 (x6_3 + 1))) = some (r1, r2, r3, r4, r5) := by rw [if_pos rfl] at H; exact H
                                            clear H
                                            have H := H1
                                            clear H1
                                            have H' := Aside0.mk H
                                            clear H
                                            have p29 : 0 ≤ (x6_3 : Int) := of_decide_eq_true (by first | (with_reducible assumption) | assumption)
                                            have q29 : x6_3 < ((rdOf ByteArray.empty (rd_L2 l0 x3_1) x4_2).size : Int) := of_decide_eq_true (by first | (with_reducible assumption) | assumption)
                                            have hx29 := bt_at (rdOf ByteArray.empty (rd_L2 l0 x3_1) x4_2) x6_3
                                            replace p29 := eq_true p29
                                            replace q29 := eq_true q29
                                            go_wp2_with (first | (go_at_call 96; (with_reducible refine (larderref04_may.calls (bt (rdOf ByteArray.empty (rd_L2 l0 x3_1) x4_2) x6_3) true _ A30.out).mono ?_); rintro e w' ⟨rfl, ⟨nd, rfl⟩⟩; (try first | exact ⟨rfl, _, World.drewN_drewN _ _ _⟩ | exact ⟨rfl, _, Eq.trans (World.drewN_drewN _ _ _) (congrArg (World.drewN _) (Nat.add_assoc _ _ _))⟩)))
                                            repeat (go_quiet (first | (go_at_call 96; (with_reducible refine (larderref04_may.calls (bt (rdOf ByteArray.empty (rd_L2 l0 x3_1) x4_2) x6_3) true _ A30.out).mono ?_); rintro e w' ⟨rfl, ⟨nd, rfl⟩⟩; (try first | exact ⟨rfl, _, World.drewN_drewN _ _ _⟩ | exact ⟨rfl, _, Eq.trans (World.drewN_drewN _ _ _) (congrArg (World.drewN _) (Nat.add_assoc _ _ _))⟩))); try go_wp2_with (first | (go_at_call 96; (with_reducible refine (larderref04_may.calls (bt (rdOf ByteArray.empty (rd_L2 l0 x3_1) x4_2) x6_3) true _ A30.out).mono ?_); rintro e w' ⟨rfl, ⟨nd, rfl⟩⟩; (try first | exact ⟨rfl, _, World.drewN_drewN _ _ _⟩ | exact ⟨rfl, _, Eq.trans (World.drewN_drewN _ _ _) (congrArg (World.drewN _) (Nat.add_assoc _ _ _))⟩))))
                                            go_roundg k3
                                            case measure => have := HK1.out; have := HK2.out; have := HK3.out; omega
                                            case rel => exact ⟨(wrap64 (x6_3 + 1)), (x800102000_3), (x800102001_3), (x800102002_3), (x800102003_3), (x800102004_3), (by first | rfl | (simp; done) | (simp [*]; done)), H', ⟨by have := HK1.out; have := HK2.out; have := HK3.out; omega⟩, ⟨by (with_reducible repeat (first | refine blk_drewN ?_ _ | refine blk_drew ?_ | refine blk_alloc ?_ _)); exact BK800101.out⟩, ⟨by repeat (first | (with_reducible first | exact HB.out | apply below_alloc | apply pw_below_drewN | apply below_drew1 | refine below_set ?_ GE800101.out) | exact HB.out)⟩⟩
                                          · replace c31 := Bool.eq_false_iff.mpr c31
                                            subst c31
                                            have H1 : ((larderref04_at.f 4 (wrap64 (x3_1 + 1)) x4_2).bind fun bt800135 => (some (bt800135.1, bt800135.2.1, bt800135.2.2.1, bt800135.2.2.2.1, bt800135.2.2.2.2))) = some (r1, r2, r3, r4, r5) := by rw [if_neg (show ¬ (false = true) by decide)] at H; exact H
                                            clear H
                                            have H := H1
                                            clear H1
                                            replace H := Option.bind_eq_some_iff.mp H
                                            obtain ⟨⟨t800135, t800136, t800137, t800138, t800139⟩, A320, H⟩ := H
                                            replace H : (some (t800135, t800136, t800137, t800138, t800139)) = some (r1, r2, r3, r4, r5) := H
                                            have A32 := Aside0.mk A320
                                            clear A320
                                            simp only [Option.some.injEq, Prod.mk.injEq] at H
                                            obtain ⟨rfl, rfl, rfl, rfl, rfl⟩ := H
                                            have p29 : 0 ≤ (x6_3 : Int) := of_decide_eq_true (by first | (with_reducible assumption) | assumption)
                                            have q29 : x6_3 < ((rdOf ByteArray.empty (rd_L2 l0 x3_1) x4_2).size : Int) := of_decide_eq_true (by first | (with_reducible assumption) | assumption)
                                            have hx29 := bt_at (rdOf ByteArray.empty (rd_L2 l0 x3_1) x4_2) x6_3
                                            replace p29 := eq_true p29
                                            replace q29 := eq_true q29
                                            go_wp2_with (first | (go_at_call 96; (with_reducible refine (larderref04_may.calls (bt (rdOf ByteArray.empty (rd_L2 l0 x3_1) x4_2) x6_3) false _ A30.out).mono ?_); rintro e w' ⟨rfl, ⟨nd, rfl⟩⟩; (try first | exact ⟨rfl, _, World.drewN_drewN _ _ _⟩ | exact ⟨rfl, _, Eq.trans (World.drewN_drewN _ _ _) (congrArg (World.drewN _) (Nat.add_assoc _ _ _))⟩)) | (go_at_call 81; (with_reducible refine (larderref04_at.calls 4 (wrap64 (x3_1 + 1)) x4_2 t800135 t800136 t800137 t800138 t800139 _ A32.out).mono ?_); rintro e w33 ⟨rfl, hb⟩; have n0_ := Aside0.mk (blk_below (g := gb800101) (o := .cells #[.int .i64 x800102000_3, .int .i64 x800102001_3, .int .i64 x800102002_3, .int .i64 x800102003_3, .int .i64 x800102004_3] 46 (0, 0)) (by (with_reducible repeat (first | refine blk_drewN ?_ _ | refine blk_drew ?_ | refine blk_alloc ?_ _)); exact BK800101.out) hb); have n1_ := Aside0.mk (below_step (by repeat (first | (with_reducible first | exact HB.out | apply below_alloc | apply pw_below_drewN | apply below_drew1 | refine below_set ?_ GE800101.out) | exact HB.out)) hb); clear BK800101; clear HB; have BK800101 := n0_; have HB := n1_; clear n0_ n1_; (try clear hb); (try clear hb2); (try clear hk); (try clear hi); have hcz34_0 : w33.cell? ⟨gb800101, 0, none⟩ = some (.int .i64 x800102000_3) := (blk_cell BK800101.out 0).trans rfl; have hcz34_1 : w33.cell? ⟨gb800101, 1, none⟩ = some (.int .i64 x800102001_3) := (blk_cell BK800101.out 1).trans rfl; have hcz34_2 : w33.cell? ⟨gb800101, 2, none⟩ = some (.int .i64 x800102002_3) := (blk_cell BK800101.out 2).trans rfl; have hcz34_3 : w33.cell? ⟨gb800101, 3, none⟩ = some (.int .i64 x800102003_3) := (blk_cell BK800101.out 3).trans rfl; have hcz34_4 : w33.cell? ⟨gb800101, 4, none⟩ = some (.int .i64 x800102004_3) := (blk_cell BK800101.out 4).trans rfl; have hfz34_0 := blk_frozen BK800101.out 0; have hfz34_1 := blk_frozen BK800101.out 1; have hfz34_2 := blk_frozen BK800101.out 2; have hfz34_3 := blk_frozen BK800101.out 3; have hfz34_4 := blk_frozen BK800101.out 4))
                                            repeat (go_quiet (first | (go_at_call 96; (with_reducible refine (larderref04_may.calls (bt (rdOf ByteArray.empty (rd_L2 l0 x3_1) x4_2) x6_3) false _ A30.out).mono ?_); rintro e w' ⟨rfl, ⟨nd, rfl⟩⟩; (try first | exact ⟨rfl, _, World.drewN_drewN _ _ _⟩ | exact ⟨rfl, _, Eq.trans (World.drewN_drewN _ _ _) (congrArg (World.drewN _) (Nat.add_assoc _ _ _))⟩)) | (go_at_call 81; (with_reducible refine (larderref04_at.calls 4 (wrap64 (x3_1 + 1)) x4_2 t800135 t800136 t800137 t800138 t800139 _ A32.out).mono ?_); rintro e w33 ⟨rfl, hb⟩; have n0_ := Aside0.mk (blk_below (g := gb800101) (o := .cells #[.int .i64 x800102000_3, .int .i64 x800102001_3, .int .i64 x800102002_3, .int .i64 x800102003_3, .int .i64 x800102004_3] 46 (0, 0)) (by (with_reducible repeat (first | refine blk_drewN ?_ _ | refine blk_drew ?_ | refine blk_alloc ?_ _)); exact BK800101.out) hb); have n1_ := Aside0.mk (below_step (by repeat (first | (with_reducible first | exact HB.out | apply below_alloc | apply pw_below_drewN | apply below_drew1 | refine below_set ?_ GE800101.out) | exact HB.out)) hb); clear BK800101; clear HB; have BK800101 := n0_; have HB := n1_; clear n0_ n1_; (try clear hb); (try clear hb2); (try clear hk); (try clear hi); have hcz34_0 : w33.cell? ⟨gb800101, 0, none⟩ = some (.int .i64 x800102000_3) := (blk_cell BK800101.out 0).trans rfl; have hcz34_1 : w33.cell? ⟨gb800101, 1, none⟩ = some (.int .i64 x800102001_3) := (blk_cell BK800101.out 1).trans rfl; have hcz34_2 : w33.cell? ⟨gb800101, 2, none⟩ = some (.int .i64 x800102002_3) := (blk_cell BK800101.out 2).trans rfl; have hcz34_3 : w33.cell? ⟨gb800101, 3, none⟩ = some (.int .i64 x800102003_3) := (blk_cell BK800101.out 3).trans rfl; have hcz34_4 : w33.cell? ⟨gb800101, 4, none⟩ = some (.int .i64 x800102004_3) := (blk_cell BK800101.out 4).trans rfl; have hfz34_0 := blk_frozen BK800101.out 0; have hfz34_1 := blk_frozen BK800101.out 1; have hfz34_2 := blk_frozen BK800101.out 2; have hfz34_3 := blk_frozen BK800101.out 3; have hfz34_4 := blk_frozen BK800101.out 4)); try go_wp2_with (first | (go_at_call 96; (with_reducible refine (larderref04_may.calls (bt (rdOf ByteArray.empty (rd_L2 l0 x3_1) x4_2) x6_3) false _ A30.out).mono ?_); rintro e w' ⟨rfl, ⟨nd, rfl⟩⟩; (try first | exact ⟨rfl, _, World.drewN_drewN _ _ _⟩ | exact ⟨rfl, _, Eq.trans (World.drewN_drewN _ _ _) (congrArg (World.drewN _) (Nat.add_assoc _ _ _))⟩)) | (go_at_call 81; (with_reducible refine (larderref04_at.calls 4 (wrap64 (x3_1 + 1)) x4_2 t800135 t800136 t800137 t800138 t800139 _ A32.out).mono ?_); rintro e w33 ⟨rfl, hb⟩; have n0_ := Aside0.mk (blk_below (g := gb800101) (o := .cells #[.int .i64 x800102000_3, .int .i64 x800102001_3, .int .i64 x800102002_3, .int .i64 x800102003_3, .int .i64 x800102004_3] 46 (0, 0)) (by (with_reducible repeat (first | refine blk_drewN ?_ _ | refine blk_drew ?_ | refine blk_alloc ?_ _)); exact BK800101.out) hb); have n1_ := Aside0.mk (below_step (by repeat (first | (with_reducible first | exact HB.out | apply below_alloc | apply pw_below_drewN | apply below_drew1 | refine below_set ?_ GE800101.out) | exact HB.out)) hb); clear BK800101; clear HB; have BK800101 := n0_; have HB := n1_; clear n0_ n1_; (try clear hb); (try clear hb2); (try clear hk); (try clear hi); have hcz34_0 : w33.cell? ⟨gb800101, 0, none⟩ = some (.int .i64 x800102000_3) := (blk_cell BK800101.out 0).trans rfl; have hcz34_1 : w33.cell? ⟨gb800101, 1, none⟩ = some (.int .i64 x800102001_3) := (blk_cell BK800101.out 1).trans rfl; have hcz34_2 : w33.cell? ⟨gb800101, 2, none⟩ = some (.int .i64 x800102002_3) := (blk_cell BK800101.out 2).trans rfl; have hcz34_3 : w33.cell? ⟨gb800101, 3, none⟩ = some (.int .i64 x800102003_3) := (blk_cell BK800101.out 3).trans rfl; have hcz34_4 : w33.cell? ⟨gb800101, 4, none⟩ = some (.int .i64 x800102004_3) := (blk_cell BK800101.out 4).trans rfl; have hfz34_0 := blk_frozen BK800101.out 0; have hfz34_1 := blk_frozen BK800101.out 1; have hfz34_2 := blk_frozen BK800101.out 2; have hfz34_3 := blk_frozen BK800101.out 3; have hfz34_4 := blk_frozen BK800101.out 4)))
                                            refine bodyPost_ret (results_cell_row rfl _ _ gb800101 46 #[.int .i64 t800135, .int .i64 t800136, .int .i64 t800137, .int .i64 t800138, .int .i64 t800139] (0, 0) _ rfl (by (with_reducible repeat (first | refine blk_drewN ?_ _ | refine blk_drew ?_ | refine blk_alloc ?_ _)); refine blk_put (cs := #[.int .i64 t800135, .int .i64 t800136, .int .i64 t800137, .int .i64 t800138, .int .i64 x800102004_3]) ?_ 4 _ rfl; (with_reducible repeat (first | refine blk_drewN ?_ _ | refine blk_drew ?_ | refine blk_alloc ?_ _)); refine blk_put (cs := #[.int .i64 t800135, .int .i64 t800136, .int .i64 t800137, .int .i64 x800102003_3, .int .i64 x800102004_3]) ?_ 3 _ rfl; (with_reducible repeat (first | refine blk_drewN ?_ _ | refine blk_drew ?_ | refine blk_alloc ?_ _)); refine blk_put (cs := #[.int .i64 t800135, .int .i64 t800136, .int .i64 x800102002_3, .int .i64 x800102003_3, .int .i64 x800102004_3]) ?_ 2 _ rfl; (with_reducible repeat (first | refine blk_drewN ?_ _ | refine blk_drew ?_ | refine blk_alloc ?_ _)); refine blk_put (cs := #[.int .i64 t800135, .int .i64 x800102001_3, .int .i64 x800102002_3, .int .i64 x800102003_3, .int .i64 x800102004_3]) ?_ 1 _ rfl; (with_reducible repeat (first | refine blk_drewN ?_ _ | refine blk_drew ?_ | refine blk_alloc ?_ _)); refine blk_put (cs := #[.int .i64 x800102000_3, .int .i64 x800102001_3, .int .i64 x800102002_3, .int .i64 x800102003_3, .int .i64 x800102004_3]) ?_ 0 _ rfl; (with_reducible repeat (first | refine blk_drewN ?_ _ | refine blk_drew ?_ | refine blk_alloc ?_ _)); exact BK800101.out) Tryz.underlying46 rfl (by kernel_rfl)) rfl ?_
                                            exact ⟨by first | rfl | (simp [errW_none, errW_some] <;> rfl) | (simp [*, errW_none, errW_some] <;> rfl), by repeat (first | (with_reducible first | exact HB.out | apply below_alloc | apply pw_below_drewN | apply below_drew1 | refine below_set ?_ GE800101.out) | exact HB.out)⟩
                                        · rw [if_neg c28] at H
                                          exact absurd H (by simp)
                                      · rw [if_neg c27] at H
                                        have c27b0 : decide (x6_3 < ((rdOf ByteArray.empty (rd_L2 l0 x3_1) x4_2).size : Int)) = false := decide_eq_false c27
                                        clear c27
                                        have H' := Aside0.mk H
                                        clear H
                                        go_wp2
                                        repeat (go_quiet (fail); try go_wp2)
                                        go_roundg k3
                                        case measure => have := HK1.out; have := HK2.out; have := HK3.out; omega
                                        case rel => exact ⟨(wrap64 (x4_2 + 1)), (x800102000_3), (x800102001_3), (x800102002_3), (x800102003_3), (x800102004_3), (by first | rfl | (simp; done) | (simp [*]; done)), H', ⟨by have := HK1.out; have := HK2.out; have := HK3.out; omega⟩, ⟨by (with_reducible repeat (first | refine blk_drewN ?_ _ | refine blk_drew ?_ | refine blk_alloc ?_ _)); exact BK800101.out⟩, ⟨by repeat (first | (with_reducible first | exact HB.out | apply below_alloc | apply pw_below_drewN | apply below_drew1 | refine below_set ?_ GE800101.out) | exact HB.out)⟩⟩
                              · rw [if_neg c22] at H
                                exact absurd H (by simp)
                            · rw [if_neg c21] at H
                              have c21b0 : decide (x4_2 < ((rd_L2 l0 x3_1).length : Int)) = false := decide_eq_false c21
                              clear c21
                              have H' := Aside0.mk H
                              clear H
                              have p800126 : 0 ≤ (x3_1 : Int) := of_decide_eq_true (by first | (with_reducible assumption) | assumption)
                              have q800126 : x3_1 < (l0.length : Int) := of_decide_eq_true (by first | (with_reducible assumption) | assumption)
                              obtain ⟨ad800126, A800126_0, c800126_0, e800126, hx800126_0, hl800126_0, hi800126_0⟩ := at_L2 HR0.out x3_1 p800126 q800126
                              obtain rfl : ad800107 = ad800126 := (by injection e800126)
                              replace hx800126_0 := (HB.out.cell (World.block_lt_of_cell? w _ hx800126_0)).trans hx800126_0
                              have HR800126_0 := Aside0.mk hi800126_0
                              have HC800126_0 := Aside0.mk hl800126_0
                              clear hi800126_0 hl800126_0
                              replace p800126 := eq_true p800126
                              replace q800126 := eq_true q800126
                              go_wp2
                              repeat (go_quiet (fail); try go_wp2)
                              go_roundg k2
                              case measure => have := HK1.out; have := HK2.out; omega
                              case rel => exact ⟨(wrap64 (x3_1 + 1)), (x800102000_2), (x800102001_2), (x800102002_2), (x800102003_2), (x800102004_2), (by first | rfl | (simp; done) | (simp [*]; done)), H', ⟨by have := HK1.out; have := HK2.out; omega⟩, ⟨by (with_reducible repeat (first | refine blk_drewN ?_ _ | refine blk_drew ?_ | refine blk_alloc ?_ _)); exact BK800101.out⟩, ⟨by repeat (first | (with_reducible first | exact HB.out | apply below_alloc | apply pw_below_drewN | apply below_drew1 | refine below_set ?_ GE800101.out) | exact HB.out)⟩⟩
                          · rw [if_neg c20] at H
                            exact absurd H (by simp)
                        · rw [if_neg c19] at H
                          exact absurd H (by simp)
                  · rw [if_neg c18] at H
                    have c18b0 : (((rd_L2 l0 x3_1).length : Int) == ((rd_L2 l0 0).length : Int)) = false := beq_eq_false_iff_ne.mpr c18
                    have c18b1 : (((rd_L2 l0 x3_1).length : Int) != ((rd_L2 l0 0).length : Int)) = true := bne_iff_ne.mpr c18
                    have c18b2 : ((rd_L2 l0 x3_1).length == (rd_L2 l0 0).length) = false := by first | simpa using c18 | (simp at c18 ⊢; omega)
                    replace H := Option.bind_eq_some_iff.mp H
                    obtain ⟨⟨t800121, t800122, t800123, t800124, t800125⟩, A350, H⟩ := H
                    replace H : (some (t800121, t800122, t800123, t800124, t800125)) = some (r1, r2, r3, r4, r5) := H
                    have A35 := Aside0.mk A350
                    clear A350
                    simp only [Option.some.injEq, Prod.mk.injEq] at H
                    obtain ⟨rfl, rfl, rfl, rfl, rfl⟩ := H
                    have p800107 : 0 ≤ (x3_1 : Int) := of_decide_eq_true (by first | (with_reducible assumption) | assumption)
                    have q800107 : x3_1 < (l0.length : Int) := of_decide_eq_true (by first | (with_reducible assumption) | assumption)
                    obtain ⟨ad800107, A800107_0, c800107_0, e800107, hx800107_0, hl800107_0, hi800107_0⟩ := at_L2 HR0.out x3_1 p800107 q800107
                    cases e800107
                    replace hx800107_0 := (HB.out.cell (World.block_lt_of_cell? w _ hx800107_0)).trans hx800107_0
                    have HR800107_0 := Aside0.mk hi800107_0
                    have HC800107_0 := Aside0.mk hl800107_0
                    clear hi800107_0 hl800107_0
                    replace p800107 := eq_true p800107
                    replace q800107 := eq_true q800107
                    have p800113 : 0 ≤ (x3_1 : Int) := of_decide_eq_true (by first | (with_reducible assumption) | assumption)
                    have q800113 : x3_1 < (l0.length : Int) := of_decide_eq_true (by first | (with_reducible assumption) | assumption)
                    obtain ⟨ad800113, A800113_0, c800113_0, e800113, hx800113_0, hl800113_0, hi800113_0⟩ := at_L2 HR0.out x3_1 p800113 q800113
                    obtain rfl : ad800107 = ad800113 := (by injection e800113)
                    replace hx800113_0 := (HB.out.cell (World.block_lt_of_cell? w _ hx800113_0)).trans hx800113_0
                    have HR800113_0 := Aside0.mk hi800113_0
                    have HC800113_0 := Aside0.mk hl800113_0
                    clear hi800113_0 hl800113_0
                    replace p800113 := eq_true p800113
                    replace q800113 := eq_true q800113
                    have ea_ := Option.some.inj (hx800107_0.symm.trans hx800113_0)
                    injection ea_ with ea_ en_ ec_
                    subst ea_
                    subst ec_
                    clear en_
                    have p800119 : 0 ≤ (x3_1 : Int) := of_decide_eq_true (by first | (with_reducible assumption) | assumption)
                    have q800119 : x3_1 < (l0.length : Int) := of_decide_eq_true (by first | (with_reducible assumption) | assumption)
                    obtain ⟨ad800119, A800119_0, c800119_0, e800119, hx800119_0, hl800119_0, hi800119_0⟩ := at_L2 HR0.out x3_1 p800119 q800119
                    obtain rfl : ad800107 = ad800119 := (by injection e800119)
                    replace hx800119_0 := (HB.out.cell (World.block_lt_of_cell? w _ hx800119_0)).trans hx800119_0
                    have HR800119_0 := Aside0.mk hi800119_0
                    have HC800119_0 := Aside0.mk hl800119_0
                    clear hi800119_0 hl800119_0
                    replace p800119 := eq_true p800119
                    replace q800119 := eq_true q800119
                    have ea_ := Option.some.inj (hx800107_0.symm.trans hx800119_0)
                    injection ea_ with ea_ en_ ec_
                    subst ea_
                    subst ec_
                    clear en_
                    have p800120 : 0 ≤ (0 : Int) := (by omega)
                    have q800120 : 0 < (l0.length : Int) := of_decide_eq_true (by first | (with_reducible assumption) | assumption)
                    obtain ⟨ad800120, A800120_0, c800120_0, e800120, hx800120_0, hl800120_0, hi800120_0⟩ := at_L2 HR0.out 0 p800120 q800120
                    obtain rfl : ad800107 = ad800120 := (by injection e800120)
                    have qi800120 : (0 < l0.length) = True := eq_true (by omega)
                    (try rw [show ((0 : Int)).toNat = 0 from rfl] at hx800120_0)
                    (try rw [Addr.add_zero'] at hx800120_0)
                    replace hx800120_0 := (HB.out.cell (World.block_lt_of_cell? w _ hx800120_0)).trans hx800120_0
                    have HR800120_0 := Aside0.mk hi800120_0
                    have HC800120_0 := Aside0.mk hl800120_0
                    clear hi800120_0 hl800120_0
                    replace p800120 := eq_true p800120
                    replace q800120 := eq_true q800120
                    go_wp2_with (first | (go_at_call 81; (with_reducible refine (larderref04_at.calls 8 (wrap64 (x3_1 + 1)) 0 t800121 t800122 t800123 t800124 t800125 _ A35.out).mono ?_); rintro e w36 ⟨rfl, hb⟩; have n0_ := Aside0.mk (blk_below (g := gb800101) (o := .cells #[.int .i64 x800102000_1, .int .i64 x800102001_1, .int .i64 x800102002_1, .int .i64 x800102003_1, .int .i64 x800102004_1] 46 (0, 0)) (by (with_reducible repeat (first | refine blk_drewN ?_ _ | refine blk_drew ?_ | refine blk_alloc ?_ _)); exact BK800101.out) hb); have n1_ := Aside0.mk (below_step (by repeat (first | (with_reducible first | exact HB.out | apply below_alloc | apply pw_below_drewN | apply below_drew1 | refine below_set ?_ GE800101.out) | exact HB.out)) hb); clear BK800101; clear HB; have BK800101 := n0_; have HB := n1_; clear n0_ n1_; (try clear hb); (try clear hb2); (try clear hk); (try clear hi); have hcz37_0 : w36.cell? ⟨gb800101, 0, none⟩ = some (.int .i64 x800102000_1) := (blk_cell BK800101.out 0).trans rfl; have hcz37_1 : w36.cell? ⟨gb800101, 1, none⟩ = some (.int .i64 x800102001_1) := (blk_cell BK800101.out 1).trans rfl; have hcz37_2 : w36.cell? ⟨gb800101, 2, none⟩ = some (.int .i64 x800102002_1) := (blk_cell BK800101.out 2).trans rfl; have hcz37_3 : w36.cell? ⟨gb800101, 3, none⟩ = some (.int .i64 x800102003_1) := (blk_cell BK800101.out 3).trans rfl; have hcz37_4 : w36.cell? ⟨gb800101, 4, none⟩ = some (.int .i64 x800102004_1) := (blk_cell BK800101.out 4).trans rfl; have hfz37_0 := blk_frozen BK800101.out 0; have hfz37_1 := blk_frozen BK800101.out 1; have hfz37_2 := blk_frozen BK800101.out 2; have hfz37_3 := blk_frozen BK800101.out 3; have hfz37_4 := blk_frozen BK800101.out 4))
                    repeat (go_quiet (first | (go_at_call 81; (with_reducible refine (larderref04_at.calls 8 (wrap64 (x3_1 + 1)) 0 t800121 t800122 t800123 t800124 t800125 _ A35.out).mono ?_); rintro e w36 ⟨rfl, hb⟩; have n0_ := Aside0.mk (blk_below (g := gb800101) (o := .cells #[.int .i64 x800102000_1, .int .i64 x800102001_1, .int .i64 x800102002_1, .int .i64 x800102003_1, .int .i64 x800102004_1] 46 (0, 0)) (by (with_reducible repeat (first | refine blk_drewN ?_ _ | refine blk_drew ?_ | refine blk_alloc ?_ _)); exact BK800101.out) hb); have n1_ := Aside0.mk (below_step (by repeat (first | (with_reducible first | exact HB.out | apply below_alloc | apply pw_below_drewN | apply below_drew1 | refine below_set ?_ GE800101.out) | exact HB.out)) hb); clear BK800101; clear HB; have BK800101 := n0_; have HB := n1_; clear n0_ n1_; (try clear hb); (try clear hb2); (try clear hk); (try clear hi); have hcz37_0 : w36.cell? ⟨gb800101, 0, none⟩ = some (.int .i64 x800102000_1) := (blk_cell BK800101.out 0).trans rfl; have hcz37_1 : w36.cell? ⟨gb800101, 1, none⟩ = some (.int .i64 x800102001_1) := (blk_cell BK800101.out 1).trans rfl; have hcz37_2 : w36.cell? ⟨gb800101, 2, none⟩ = some (.int .i64 x800102002_1) := (blk_cell BK800101.out 2).trans rfl; have hcz37_3 : w36.cell? ⟨gb800101, 3, none⟩ = some (.int .i64 x800102003_1) := (blk_cell BK800101.out 3).trans rfl; have hcz37_4 : w36.cell? ⟨gb800101, 4, none⟩ = some (.int .i64 x800102004_1) := (blk_cell BK800101.out 4).trans rfl; have hfz37_0 := blk_frozen BK800101.out 0; have hfz37_1 := blk_frozen BK800101.out 1; have hfz37_2 := blk_frozen BK800101.out 2; have hfz37_3 := blk_frozen BK800101.out 3; have hfz37_4 := blk_frozen BK800101.out 4)); try go_wp2_with (first | (go_at_call 81; (with_reducible refine (larderref04_at.calls 8 (wrap64 (x3_1 + 1)) 0 t800121 t800122 t800123 t800124 t800125 _ A35.out).mono ?_); rintro e w36 ⟨rfl, hb⟩; have n0_ := Aside0.mk (blk_below (g := gb800101) (o := .cells #[.int .i64 x800102000_1, .int .i64 x800102001_1, .int .i64 x800102002_1, .int .i64 x800102003_1, .int .i64 x800102004_1] 46 (0, 0)) (by (with_reducible repeat (first | refine blk_drewN ?_ _ | refine blk_drew ?_ | refine blk_alloc ?_ _)); exact BK800101.out) hb); have n1_ := Aside0.mk (below_step (by repeat (first | (with_reducible first | exact HB.out | apply below_alloc | apply pw_below_drewN | apply below_drew1 | refine below_set ?_ GE800101.out) | exact HB.out)) hb); clear BK800101; clear HB; have BK800101 := n0_; have HB := n1_; clear n0_ n1_; (try clear hb); (try clear hb2); (try clear hk); (try clear hi); have hcz37_0 : w36.cell? ⟨gb800101, 0, none⟩ = some (.int .i64 x800102000_1) := (blk_cell BK800101.out 0).trans rfl; have hcz37_1 : w36.cell? ⟨gb800101, 1, none⟩ = some (.int .i64 x800102001_1) := (blk_cell BK800101.out 1).trans rfl; have hcz37_2 : w36.cell? ⟨gb800101, 2, none⟩ = some (.int .i64 x800102002_1) := (blk_cell BK800101.out 2).trans rfl; have hcz37_3 : w36.cell? ⟨gb800101, 3, none⟩ = some (.int .i64 x800102003_1) := (blk_cell BK800101.out 3).trans rfl; have hcz37_4 : w36.cell? ⟨gb800101, 4, none⟩ = some (.int .i64 x800102004_1) := (blk_cell BK800101.out 4).trans rfl; have hfz37_0 := blk_frozen BK800101.out 0; have hfz37_1 := blk_frozen BK800101.out 1; have hfz37_2 := blk_frozen BK800101.out 2; have hfz37_3 := blk_frozen BK800101.out 3; have hfz37_4 := blk_frozen BK800101.out 4)))
                    refine bodyPost_ret (results_cell_row rfl _ _ gb800101 46 #[.int .i64 t800121, .int .i64 t800122, .int .i64 t800123, .int .i64 t800124, .int .i64 t800125] (0, 0) _ rfl (by (with_reducible repeat (first | refine blk_drewN ?_ _ | refine blk_drew ?_ | refine blk_alloc ?_ _)); refine blk_put (cs := #[.int .i64 t800121, .int .i64 t800122, .int .i64 t800123, .int .i64 t800124, .int .i64 x800102004_1]) ?_ 4 _ rfl; (with_reducible repeat (first | refine blk_drewN ?_ _ | refine blk_drew ?_ | refine blk_alloc ?_ _)); refine blk_put (cs := #[.int .i64 t800121, .int .i64 t800122, .int .i64 t800123, .int .i64 x800102003_1, .int .i64 x800102004_1]) ?_ 3 _ rfl; (with_reducible repeat (first | refine blk_drewN ?_ _ | refine blk_drew ?_ | refine blk_alloc ?_ _)); refine blk_put (cs := #[.int .i64 t800121, .int .i64 t800122, .int .i64 x800102002_1, .int .i64 x800102003_1, .int .i64 x800102004_1]) ?_ 2 _ rfl; (with_reducible repeat (first | refine blk_drewN ?_ _ | refine blk_drew ?_ | refine blk_alloc ?_ _)); refine blk_put (cs := #[.int .i64 t800121, .int .i64 x800102001_1, .int .i64 x800102002_1, .int .i64 x800102003_1, .int .i64 x800102004_1]) ?_ 1 _ rfl; (with_reducible repeat (first | refine blk_drewN ?_ _ | refine blk_drew ?_ | refine blk_alloc ?_ _)); refine blk_put (cs := #[.int .i64 x800102000_1, .int .i64 x800102001_1, .int .i64 x800102002_1, .int .i64 x800102003_1, .int .i64 x800102004_1]) ?_ 0 _ rfl; (with_reducible repeat (first | refine blk_drewN ?_ _ | refine blk_drew ?_ | refine blk_alloc ?_ _)); exact BK800101.out) Tryz.underlying46 rfl (by kernel_rfl)) rfl ?_
                    exact ⟨by first | rfl | (simp [errW_none, errW_some] <;> rfl) | (simp [*, errW_none, errW_some] <;> rfl), by repeat (first | (with_reducible first | exact HB.out | apply below_alloc | apply pw_below_drewN | apply below_drew1 | refine below_set ?_ GE800101.out) | exact HB.out)⟩
                · rw [if_neg c17] at H
                  exact absurd H (by simp)
          · rw [if_neg c8] at H
            exact absurd H (by simp)
      · rw [if_neg c3] at H
        have c3b0 : decide (x3_1 < (l0.length : Int)) = false := decide_eq_false c3
        clear c3
        simp only [Option.some.injEq, Prod.mk.injEq] at H
        obtain ⟨rfl, rfl, rfl, rfl, rfl⟩ := H
        have hcz38_0 : wr.cell? ⟨gb800101, 0, none⟩ = some (.int .i64 x800102000_1) := (blk_cell BK800101.out 0).trans rfl
        have hcz38_1 : wr.cell? ⟨gb800101, 1, none⟩ = some (.int .i64 x800102001_1) := (blk_cell BK800101.out 1).trans rfl
        have hcz38_2 : wr.cell? ⟨gb800101, 2, none⟩ = some (.int .i64 x800102002_1) := (blk_cell BK800101.out 2).trans rfl
        have hcz38_3 : wr.cell? ⟨gb800101, 3, none⟩ = some (.int .i64 x800102003_1) := (blk_cell BK800101.out 3).trans rfl
        have hcz38_4 : wr.cell? ⟨gb800101, 4, none⟩ = some (.int .i64 x800102004_1) := (blk_cell BK800101.out 4).trans rfl
        have hfz38_0 := blk_frozen BK800101.out 0
        have hfz38_1 := blk_frozen BK800101.out 1
        have hfz38_2 := blk_frozen BK800101.out 2
        have hfz38_3 := blk_frozen BK800101.out 3
        have hfz38_4 := blk_frozen BK800101.out 4
        go_wp2
        repeat (go_quiet (fail); try go_wp2)
        refine bodyPost_ret (results_cell_row rfl _ _ gb800101 46 #[.int .i64 0, .int .i64 0, .int .i64 0, .int .i64 0, .int .i64 0] (0, 0) _ rfl (by (with_reducible repeat (first | refine blk_drewN ?_ _ | refine blk_drew ?_ | refine blk_alloc ?_ _)); refine blk_put (cs := #[.int .i64 0, .int .i64 0, .int .i64 0, .int .i64 0, .int .i64 x800102004_1]) ?_ 4 _ rfl; (with_reducible repeat (first | refine blk_drewN ?_ _ | refine blk_drew ?_ | refine blk_alloc ?_ _)); refine blk_put (cs := #[.int .i64 0, .int .i64 0, .int .i64 0, .int .i64 x800102003_1, .int .i64 x800102004_1]) ?_ 3 _ rfl; (with_reducible repeat (first | refine blk_drewN ?_ _ | refine blk_drew ?_ | refine blk_alloc ?_ _)); refine blk_put (cs := #[.int .i64 0, .int .i64 0, .int .i64 x800102002_1, .int .i64 x800102003_1, .int .i64 x800102004_1]) ?_ 2 _ rfl; (with_reducible repeat (first | refine blk_drewN ?_ _ | refine blk_drew ?_ | refine blk_alloc ?_ _)); refine blk_put (cs := #[.int .i64 0, .int .i64 x800102001_1, .int .i64 x800102002_1, .int .i64 x800102003_1, .int .i64 x800102004_1]) ?_ 1 _ rfl; (with_reducible repeat (first | refine blk_drewN ?_ _ | refine blk_drew ?_ | refine blk_alloc ?_ _)); refine blk_put (cs := #[.int .i64 x800102000_1, .int .i64 x800102001_1, .int .i64 x800102002_1, .int .i64 x800102003_1, .int .i64 x800102004_1]) ?_ 0 _ rfl; (with_reducible repeat (first | refine blk_drewN ?_ _ | refine blk_drew ?_ | refine blk_alloc ?_ _)); exact BK800101.out) Tryz.underlying46 rfl (by kernel_rfl)) rfl ?_
        exact ⟨by first | rfl | (simp [errW_none, errW_some] <;> rfl) | (simp [*, errW_none, errW_some] <;> rfl), by repeat (first | (with_reducible first | exact HB.out | apply below_alloc | apply pw_below_drewN | apply below_drew1 | refine below_set ?_ GE800101.out) | exact HB.out)⟩

end Go.Proofs.YtappphffbnkloaaGreatDoor.GS
namespace Go.Proofs.YtappphffbnkloaaGreatDoor.GS
open Go.RowKit Go.Proofs.YtappphffbnkloaaGreatDoorW.PrintWords Go.Proofs.YtappphffbnkloaaGreatDoorW.PrintLast Go.Proofs.YtappphffbnkloaaGreatDoor.Ext
attribute [local go_sem] max2_int min2_int max_two min_two   -- for this text alone
set_option linter.unusedVariables false
set_option linter.unusedSimpArgs false

/-! ### larderref04_Wrong: function 58 -/
def larderref04_Wrong.f (k : Nat) (l0 : List (List ByteArray)) : Option (Int × Int × Int × Int × Int) := (larderref04_wrong.f k l0).bind fun bt580102 => (if bt580102.1 = 0 then ((larderref04_text.f k l0).bind fun t580108 => (if (t580108.length : Int) > 262144 then ((larderref04_at.f 20 0 0).bind fun bt580111 => (some (bt580111.1, bt580111.2.1, bt580111.2.2.1, bt580111.2.2.2.1, bt580111.2.2.2.2))) else (some (bt580102.1, bt580102.2.1, bt580102.2.2.1, bt580102.2.2.2.1, bt580102.2.2.2.2)))) else (some (bt580102.1, bt580102.2.1, bt580102.2.2.1, bt580102.2.2.2.1, bt580102.2.2.2.2)))
theorem larderref04_Wrong.mono : ∀ a0 k, LeO (larderref04_Wrong.f k a0) (larderref04_Wrong.f (k + 1) a0) := by
  intro a0 k
  unfold larderref04_Wrong.f
  repeat' first
      | (with_reducible exact larderref04_text.mono _ _)
      | (with_reducible exact larderref04_wrong.mono _ _)
      | (with_reducible exact LeO.refl _)
      | (with_reducible exact LeO.none _)
      | (with_reducible refine LeO.ite ?_ ?_)
      | (with_reducible refine LeO.bind ?_ (fun _ => ?_))
      | exact larderref04_text.mono _ _
      | exact larderref04_wrong.mono _ _
      | exact LeO.none _
      | refine LeO.ite ?_ ?_
      | refine LeO.bind ?_ (fun _ => ?_)
set_option maxHeartbeats 8000000 in
set_option maxRecDepth 100000 in
theorem larderref04_Wrong.calls (k : Nat) (A0 : Option Addr) (c0 : Nat) (l0 : List (List ByteArray)) (r1 : Int) (r2 : Int) (r3 : Int) (r4 : Int) (r5 : Int) (w : World) (hr0 : Kd.C (Kd.slice 9 Kd.string) w A0 l0.length l0) (hc0 : l0.length ≤ c0) (h : larderref04_Wrong.f k l0 = some (r1, r2, r3, r4, r5)) :
    Calls Tryz.prog 58 #[.slice A0 l0.length c0] w fun e w' => e = .returned (.agg #[.int .i64 r1, .int .i64 r2, .int .i64 r3, .int .i64 r4, .int .i64 r5]) ∧ Below w.heap.size w w' := by
  have hu46 := Tryz.underlying46
  have HR0 := Aside0.mk hr0
  have HC0 := Aside0.mk hc0
  clear hr0 hc0
  have HB := Aside0.mk (Below.refl w.heap.size w)
  have H : ((larderref04_wrong.f k l0).bind fun bt580102 => (if bt580102.1 = 0 then ((larderref04_text.f k l0).bind fun t580108 => (if (t580108.length : Int) > 262144 then ((larderref04_at.f 20 0 0).bind fun bt580111 => (some (bt580111.1, bt580111.2.1, bt580111.2.2.1, bt580111.2.2.2.1, bt580111.2.2.2.2))) else (some (bt580102.1, bt580102.2.1, bt580102.2.2.1, bt580102.2.2.2.1, bt580102.2.2.2.2)))) else (some (bt580102.1, bt580102.2.1, bt580102.2.2.1, bt580102.2.2.2.1, bt580102.2.2.2.2)))) = some (r1, r2, r3, r4, r5) := h
  clear h
  replace H := Option.bind_eq_some_iff.mp H
  obtain ⟨⟨t580102, t580103, t580104, t580105, t580106⟩, A20, H⟩ := H
  replace H : (if t580102 = 0 then ((larderref04_text.f k l0).bind fun t580108 => (if (t580108.length : Int) > 262144 then ((larderref04_at.f 20 0 0).bind fun bt580111 => (some (bt580111.1, bt580111.2.1, bt580111.2.2.1, bt580111.2.2.2.1, bt580111.2.2.2.2))) else (some (t580102, t580103, t580104, t580105, t580106)))) else (some (t580102, t580103, t580104, t580105, t580106))) = some (r1, r2, r3, r4, r5) := H
  have A2 := Aside0.mk A20
  clear A20
  by_cases c3 : t580102 = 0
  · rw [if_pos c3] at H
    have c3b0 : (t580102 == 0) = true := beq_iff_eq.mpr c3
    have c3b1 : (t580102 != 0) = false := bne_eq_false_iff_eq.mpr c3
    clear c3
    replace H := Option.bind_eq_some_iff.mp H
    obtain ⟨t580108, A40, H⟩ := H
    replace H : (if (t580108.length : Int) > 262144 then ((larderref04_at.f 20 0 0).bind fun bt580111 => (some (bt580111.1, bt580111.2.1, bt580111.2.2.1, bt580111.2.2.2.1, bt580111.2.2.2.2))) else (some (t580102, t580103, t580104, t580105, t580106))) = some (r1, r2, r3, r4, r5) := H
    have A4 := Aside0.mk A40
    clear A40
    by_cases c5 : (t580108.length : Int) > 262144
    · rw [if_pos c5] at H
      have c5b0 : decide (262144 < (t580108.length : Int)) = true := decide_eq_true c5
      have c5b1 : decide (262144 < t580108.length) = true := decide_eq_true (by omega)
      clear c5
      replace H := Option.bind_eq_some_iff.mp H
      obtain ⟨⟨t580111, t580112, t580113, t580114, t580115⟩, A60, H⟩ := H
      replace H : (some (t580111, t580112, t580113, t580114, t580115)) = some (r1, r2, r3, r4, r5) := H
      have A6 := Aside0.mk A60
      clear A60
      simp only [Option.some.injEq, Prod.mk.injEq] at H
      obtain ⟨rfl, rfl, rfl, rfl, rfl⟩ := H
      go_enter Tryz.func58, Tryz.ntmps58
      go_wp2_with (first | ((with_reducible refine gate_dst (N := 2) rfl ?_); refine box_event ?hg (N := 2) ?hd (cs := #[.int .i64 0, .int .i64 0, .int .i64 0, .int .i64 0, .int .i64 0]) (t := 46) ?hr ?_; (case hd => rfl); (case hg => rfl); (case hr => first | (go_simp; done) | (go_simp; rfl)); intro gb580101 hg w7 hbox hb; have n0_ := Aside0.mk (below_step (by repeat (first | (with_reducible first | exact HB.out | apply below_alloc | apply pw_below_drewN | apply below_drew1) | exact HB.out)) hb); have n1_ := Aside0.mk (hbox); have n2_ := Aside0.mk ((by rw [hg]; exact (below_size (by repeat (first | (with_reducible first | exact HB.out | apply below_alloc | apply pw_below_drewN | apply below_drew1) | exact HB.out))) : w.heap.size ≤ gb580101)); have n3_ := Aside0.mk ((by rw [hg]; exact (below_size (by repeat (first | (with_reducible first | exact HB.out | apply below_alloc | apply pw_below_drewN | apply below_drew1) | exact HB.out))) : w.heap.size ≤ gb580101)); clear HB; have HB := n0_; have BK580101 := n1_; have GW580101 := n2_; have GE580101 := n3_; clear n0_ n1_ n2_ n3_; clear hb hbox hg) | ((with_reducible refine gate_callee (f := 80) rfl ?_); refine goesL_ (some 5) rfl rfl Tryz.func80 (by kernel_rfl) rfl #[.slice A0 l0.length c0] rfl (by (try simp only [List.map_toArray, List.map_cons, List.map_nil]); first | done | rfl | (simp only [List.length_drop, List.length_take]; rfl)) ?_; (with_reducible refine (larderref04_wrong.calls k _ _ l0 t580102 t580103 t580104 t580105 t580106 _ ?side1 ?side2 A2.out).mono ?_); (case side1 => repeat (first | exact (Kd.C_below HR0.out HB.out) | (with_reducible refine Kd.C_alloc ?_ _) | (with_reducible refine Kd.C_drewN ?_ _) | (with_reducible refine Kd.C_drew ?_))); (case side2 => exact HC0.out); rintro e w8 ⟨rfl, hb⟩; refine ⟨_, rfl, ?_⟩; have n0_ := Aside0.mk (blk_below (g := gb580101) (o := .cells #[.int .i64 0, .int .i64 0, .int .i64 0, .int .i64 0, .int .i64 0] 46 (0, 0)) (by (with_reducible repeat (first | refine blk_drewN ?_ _ | refine blk_drew ?_ | refine blk_alloc ?_ _)); exact BK580101.out) hb); have n1_ := Aside0.mk (below_step (by repeat (first | (with_reducible first | exact HB.out | apply below_alloc | apply pw_below_drewN | apply below_drew1 | refine below_set ?_ GE580101.out) | exact HB.out)) hb); clear BK580101; clear HB; have BK580101 := n0_; have HB := n1_; clear n0_ n1_; (try clear hb); (try clear hb2); (try clear hk); (try clear hi)) | ((with_reducible refine gate_dst (N := 3) rfl ?_); refine box_event ?hg (N := 3) ?hd (cs := #[.int .i64 0, .int .i64 0, .int .i64 0, .int .i64 0, .int .i64 0]) (t := 46) ?hr ?_; (case hd => rfl); (case hg => rfl); (case hr => first | (go_simp; done) | (go_simp; rfl)); intro gb580107 hg w9 hbox hb; have n0_ := Aside0.mk (blk_below (g := gb580101) (o := .cells #[.int .i64 0, .int .i64 0, .int .i64 0, .int .i64 0, .int .i64 0] 46 (0, 0)) (by (with_reducible repeat (first | refine blk_drewN ?_ _ | refine blk_drew ?_ | refine blk_alloc ?_ _)); exact BK580101.out) hb); have n1_ := Aside0.mk (below_step (by repeat (first | (with_reducible first | exact HB.out | apply below_alloc | apply pw_below_drewN | apply below_drew1 | refine below_set ?_ GE580101.out) | exact HB.out)) hb); have n2_ := Aside0.mk (hbox); have n3_ := Aside0.mk ((by rw [hg]; exact (below_size (by repeat (first | (with_reducible first | exact HB.out | apply below_alloc | apply pw_below_drewN | apply below_drew1 | refine below_set ?_ GE580101.out) | exact HB.out))) : w.heap.size ≤ gb580107)); have n4_ := Aside0.mk ((by rw [hg]; exact (below_size (by repeat (first | (with_reducible first | exact HB.out | apply below_alloc | apply pw_below_drewN | apply below_drew1 | refine below_set ?_ GE580101.out) | exact HB.out))) : w.heap.size ≤ gb580107)); have n5_ := Aside0.mk ((by rw [hg]; exact Nat.ne_of_lt (blk_lt (g := gb580101) (o := .cells #[.int .i64 0, .int .i64 0, .int .i64 0, .int .i64 0, .int .i64 0] 46 (0, 0)) (by (with_reducible repeat (first | refine blk_drewN ?_ _ | refine blk_drew ?_ | refine blk_alloc ?_ _)); exact BK580101.out)) : gb580101 ≠ gb580107)); have n6_ := Aside0.mk ((by rw [hg]; exact Nat.ne_of_gt (blk_lt (g := gb580101) (o := .cells #[.int .i64 0, .int .i64 0, .int .i64 0, .int .i64 0, .int .i64 0] 46 (0, 0)) (by (with_reducible repeat (first | refine blk_drewN ?_ _ | refine blk_drew ?_ | refine blk_alloc ?_ _)); exact BK580101.out)) : gb580107 ≠ gb580101)); clear BK580101; clear HB; have BK580101 := n0_; have HB := n1_; have BK580107 := n2_; have GW580107 := n3_; have GE580107 := n4_; have NB580101_580107 := n5_; have NB580107_580101 := n6_; clear n0_ n1_ n2_ n3_ n4_ n5_ n6_; clear hb hbox hg; have hnb10 := NB580107_580101.out; have hnc10 := NB580101_580107.out; have hcz11_0 : w9.cell? ⟨gb580107, 0, none⟩ = some (.int .i64 0) := (blk_cell BK580107.out 0).trans rfl; have hcz11_1 : w9.cell? ⟨gb580107, 1, none⟩ = some (.int .i64 0) := (blk_cell BK580107.out 1).trans rfl; have hcz11_2 : w9.cell? ⟨gb580107, 2, none⟩ = some (.int .i64 0) := (blk_cell BK580107.out 2).trans rfl; have hcz11_3 : w9.cell? ⟨gb580107, 3, none⟩ = some (.int .i64 0) := (blk_cell BK580107.out 3).trans rfl; have hcz11_4 : w9.cell? ⟨gb580107, 4, none⟩ = some (.int .i64 0) := (blk_cell BK580107.out 4).trans rfl; have hfz11_0 := blk_frozen BK580107.out 0; have hfz11_1 := blk_frozen BK580107.out 1; have hfz11_2 := blk_frozen BK580107.out 2; have hfz11_3 := blk_frozen BK580107.out 3; have hfz11_4 := blk_frozen BK580107.out 4) | (go_at_call 59; (with_reducible refine (larderref04_text.calls k _ _ l0 t580108 _ ?side1 ?side2 A4.out).mono ?_); (case side1 => exact Kd.C_below HR0.out (by repeat (first | (with_reducible first | exact HB.out | apply below_alloc | apply pw_below_drewN | apply below_drew1 | refine below_set ?_ GE580101.out | refine below_set ?_ GE580107.out) | exact HB.out))); (case side2 => exact HC0.out); rintro e w12 ⟨v580109, rfl, ho0, hb⟩; have n0_ := Aside0.mk (Kd.R_lower ho0 (below_size (by repeat (first | (with_reducible first | exact HB.out | apply below_alloc | apply pw_below_drewN | apply below_drew1 | refine below_set ?_ GE580101.out | refine below_set ?_ GE580107.out) | exact HB.out)))); have n1_ := Aside0.mk (blk_below (g := gb580101) (o := .cells #[.int .i64 0, .int .i64 0, .int .i64 0, .int .i64 0, .int .i64 0] 46 (0, 0)) (by (with_reducible repeat (first | refine blk_drewN ?_ _ | refine blk_drew ?_ | refine blk_alloc ?_ _)); refine blk_far ?_ NB580101_580107.out _; (with_reducible repeat (first | refine blk_drewN ?_ _ | refine blk_drew ?_ | refine blk_alloc ?_ _)); refine blk_far ?_ NB580101_580107.out _; (with_reducible repeat (first | refine blk_drewN ?_ _ | refine blk_drew ?_ | refine blk_alloc ?_ _)); refine blk_far ?_ NB580101_580107.out _; (with_reducible repeat (first | refine blk_drewN ?_ _ | refine blk_drew ?_ | refine blk_alloc ?_ _)); refine blk_far ?_ NB580101_580107.out _; (with_reducible repeat (first | refine blk_drewN ?_ _ | refine blk_drew ?_ | refine blk_alloc ?_ _)); refine blk_far ?_ NB580101_580107.out _; (with_reducible repeat (first | refine blk_drewN ?_ _ | refine blk_drew ?_ | refine blk_alloc ?_ _)); exact BK580101.out) hb); have n2_ := Aside0.mk (blk_below (g := gb580107) (o := .cells #[.int .i64 t580102, .int .i64 t580103, .int .i64 t580104, .int .i64 t580105, .int .i64 t580106] 46 (0, 0)) (by (with_reducible repeat (first | refine blk_drewN ?_ _ | refine blk_drew ?_ | refine blk_alloc ?_ _)); refine blk_put (cs := #[.int .i64 t580102, .int .i64 t580103, .int .i64 t580104, .int .i64 t580105, .int .i64 0]) ?_ 4 _ rfl; (with_reducible repeat (first | refine blk_drewN ?_ _ | refine blk_drew ?_ | refine blk_alloc ?_ _)); refine blk_put (cs := #[.int .i64 t580102, .int .i64 t580103, .int .i64 t580104, .int .i64 0, .int .i64 0]) ?_ 3 _ rfl; (with_reducible repeat (first | refine blk_drewN ?_ _ | refine blk_drew ?_ | refine blk_alloc ?_ _)); refine blk_put (cs := #[.int .i64 t580102, .int .i64 t580103, .int .i64 0, .int .i64 0, .int .i64 0]) ?_ 2 _ rfl; (with_reducible repeat (first | refine blk_drewN ?_ _ | refine blk_drew ?_ | refine blk_alloc ?_ _)); refine blk_put (cs := #[.int .i64 t580102, .int .i64 0, .int .i64 0, .int .i64 0, .int .i64 0]) ?_ 1 _ rfl; (with_reducible repeat (first | refine blk_drewN ?_ _ | refine blk_drew ?_ | refine blk_alloc ?_ _)); refine blk_put (cs := #[.int .i64 0, .int .i64 0, .int .i64 0, .int .i64 0, .int .i64 0]) ?_ 0 _ rfl; (with_reducible repeat (first | refine blk_drewN ?_ _ | refine blk_drew ?_ | refine blk_alloc ?_ _)); exact BK580107.out) hb); have n3_ := Aside0.mk (below_step (by repeat (first | (with_reducible first | exact HB.out | apply below_alloc | apply pw_below_drewN | apply below_drew1 | refine below_set ?_ GE580101.out | refine below_set ?_ GE580107.out) | exact HB.out)) hb); clear BK580101; clear BK580107; clear HB; have HO580110 := n0_; have BK580101 := n1_; have BK580107 := n2_; have HB := n3_; clear n0_ n1_ n2_ n3_; (try clear hb); (try clear hb2); (try clear hk); (try clear hi); (try clear ho0); obtain ⟨Ao13, co13, eo13⟩ := Kd.R_slice HO580110.out; subst eo13) | ((with_reducible refine gate_callee (f := 81) rfl ?_); refine goesL_ (some 15) rfl rfl Tryz.func81 (by kernel_rfl) rfl #[.int .i64 20, .int .i64 0, .int .i64 0] rfl (by (try simp only [List.map_toArray, List.map_cons, List.map_nil]); first | done | rfl | (simp only [List.length_drop, List.length_take]; rfl)) ?_; (with_reducible refine (larderref04_at.calls 20 0 0 t580111 t580112 t580113 t580114 t580115 _ A6.out).mono ?_); rintro e w14 ⟨rfl, hb⟩; refine ⟨_, rfl, ?_⟩; have n0_ := Aside0.mk (Kd.R_below (by (with_reducible repeat (first | apply Kd.R_alloc | apply Kd.R_drewN | apply Kd.R_drew)); exact HO580110.out) hb); have n1_ := Aside0.mk (blk_below (g := gb580101) (o := .cells #[.int .i64 0, .int .i64 0, .int .i64 0, .int .i64 0, .int .i64 0] 46 (0, 0)) (by (with_reducible repeat (first | refine blk_drewN ?_ _ | refine blk_drew ?_ | refine blk_alloc ?_ _)); exact BK580101.out) hb); have n2_ := Aside0.mk (blk_below (g := gb580107) (o := .cells #[.int .i64 t580102, .int .i64 t580103, .int .i64 t580104, .int .i64 t580105, .int .i64 t580106] 46 (0, 0)) (by (with_reducible repeat (first | refine blk_drewN ?_ _ | refine blk_drew ?_ | refine blk_alloc ?_ _)); exact BK580107.out) hb); have n3_ := Aside0.mk (below_step (by repeat (first | (with_reducible first | exact HB.out | apply below_alloc | apply pw_below_drewN | apply below_drew1 | refine below_set ?_ GE580101.out | refine below_set ?_ GE580107.out) | exact HB.out)) hb); clear HO580110; clear BK580101; clear BK580107; clear HB; have HO580110 := n0_; have BK580101 := n1_; have BK580107 := n2_; have HB := n3_; clear n0_ n1_ n2_ n3_; (try clear hb); (try clear hb2); (try clear hk); (try clear hi); have hcz15_0 : w14.cell? ⟨gb580101, 0, none⟩ = some (.int .i64 0) := (blk_cell BK580101.out 0).trans rfl; have hcz15_1 : w14.cell? ⟨gb580101, 1, none⟩ = some (.int .i64 0) := (blk_cell BK580101.out 1).trans rfl; have hcz15_2 : w14.cell? ⟨gb580101, 2, none⟩ = some (.int .i64 0) := (blk_cell BK580101.out 2).trans rfl; have hcz15_3 : w14.cell? ⟨gb580101, 3, none⟩ = some (.int .i64 0) := (blk_cell BK580101.out 3).trans rfl; have hcz15_4 : w14.cell? ⟨gb580101, 4, none⟩ = some (.int .i64 0) := (blk_cell BK580101.out 4).trans rfl; have hfz15_0 := blk_frozen BK580101.out 0; have hfz15_1 := blk_frozen BK580101.out 1; have hfz15_2 := blk_frozen BK580101.out 2; have hfz15_3 := blk_frozen BK580101.out 3; have hfz15_4 := blk_frozen BK580101.out 4))
      refine bodyPost_ret (results_cell_row rfl _ _ gb580101 46 #[.int .i64 t580111, .int .i64 t580112, .int .i64 t580113, .int .i64 t580114, .int .i64 t580115] (0, 0) _ rfl (by (with_reducible repeat (first | refine blk_drewN ?_ _ | refine blk_drew ?_ | refine blk_alloc ?_ _)); refine blk_put (cs := #[.int .i64 t580111, .int .i64 t580112, .int .i64 t580113, .int .i64 t580114, .int .i64 0]) ?_ 4 _ rfl; (with_reducible repeat (first | refine blk_drewN ?_ _ | refine blk_drew ?_ | refine blk_alloc ?_ _)); refine blk_put (cs := #[.int .i64 t580111, .int .i64 t580112, .int .i64 t580113, .int .i64 0, .int .i64 0]) ?_ 3 _ rfl; (with_reducible repeat (first | refine blk_drewN ?_ _ | refine blk_drew ?_ | refine blk_alloc ?_ _)); refine blk_put (cs := #[.int .i64 t580111, .int .i64 t580112, .int .i64 0, .int .i64 0, .int .i64 0]) ?_ 2 _ rfl; (with_reducible repeat (first | refine blk_drewN ?_ _ | refine blk_drew ?_ | refine blk_alloc ?_ _)); refine blk_put (cs := #[.int .i64 t580111, .int .i64 0, .int .i64 0, .int .i64 0, .int .i64 0]) ?_ 1 _ rfl; (with_reducible repeat (first | refine blk_drewN ?_ _ | refine blk_drew ?_ | refine blk_alloc ?_ _)); refine blk_put (cs := #[.int .i64 0, .int .i64 0, .int .i64 0, .int .i64 0, .int .i64 0]) ?_ 0 _ rfl; (with_reducible repeat (first | refine blk_drewN ?_ _ | refine blk_drew ?_ | refine blk_alloc ?_ _)); exact BK580101.out) Tryz.underlying46 rfl (by kernel_rfl)) rfl ?_
      exact ⟨by first | rfl | (simp [errW_none, errW_some] <;> rfl) | (simp [*, errW_none, errW_some] <;> rfl), by repeat (first | (with_reducible first | exact HB.out | apply below_alloc | apply pw_below_drewN | apply below_drew1 | refine below_set ?_ GE580101.out | refine below_set ?_ GE580107.out) | exact HB.out)⟩
    · rw [if_neg c5] at H
      have c5b0 : decide (262144 < (t580108.length : Int)) = false := decide_eq_false c5
      have c5b1 : decide (262144 < t580108.length) = false := decide_eq_false (by omega)
      clear c5
      simp only [Option.some.injEq, Prod.mk.injEq] at H
      obtain ⟨rfl, rfl, rfl, rfl, rfl⟩ := H
      go_enter Tryz.func58, Tryz.ntmps58
      go_wp2_with (first | ((with_reducible refine gate_dst (N := 2) rfl ?_); refine box_event ?hg (N := 2) ?hd (cs := #[.int .i64 0, .int .i64 0, .int .i64 0, .int .i64 0, .int .i64 0]) (t := 46) ?hr ?_; (case hd => rfl); (case hg => rfl); (case hr => first | (go_simp; done) | (go_simp; rfl)); intro gb580101 hg w16 hbox hb; have n0_ := Aside0.mk (below_step (by repeat (first | (with_reducible first | exact HB.out | apply below_alloc | apply pw_below_drewN | apply below_drew1) | exact HB.out)) hb); have n1_ := Aside0.mk (hbox); have n2_ := Aside0.mk ((by rw [hg]; exact (below_size (by repeat (first | (with_reducible first | exact HB.out | apply below_alloc | apply pw_below_drewN | apply below_drew1) | exact HB.out))) : w.heap.size ≤ gb580101)); have n3_ := Aside0.mk ((by rw [hg]; exact (below_size (by repeat (first | (with_reducible first | exact HB.out | apply below_alloc | apply pw_below_drewN | apply below_drew1) | exact HB.out))) : w.heap.size ≤ gb580101)); clear HB; have HB := n0_; have BK580101 := n1_; have GW580101 := n2_; have GE580101 := n3_; clear n0_ n1_ n2_ n3_; clear hb hbox hg) | ((with_reducible refine gate_callee (f := 80) rfl ?_); refine goesL_ (some 5) rfl rfl Tryz.func80 (by kernel_rfl) rfl #[.slice A0 l0.length c0] rfl (by (try simp only [List.map_toArray, List.map_cons, List.map_nil]); first | done | rfl | (simp only [List.length_drop, List.length_take]; rfl)) ?_; (with_reducible refine (larderref04_wrong.calls k _ _ l0 t580102 t580103 t580104 t580105 t580106 _ ?side1 ?side2 A2.out).mono ?_); (case side1 => repeat (first | exact (Kd.C_below HR0.out HB.out) | (with_reducible refine Kd.C_alloc ?_ _) | (with_reducible refine Kd.C_drewN ?_ _) | (with_reducible refine Kd.C_drew ?_))); (case side2 => exact HC0.out); rintro e w17 ⟨rfl, hb⟩; refine ⟨_, rfl, ?_⟩; have n0_ := Aside0.mk (blk_below (g := gb580101) (o := .cells #[.int .i64 0, .int .i64 0, .int .i64 0, .int .i64 0, .int .i64 0] 46 (0, 0)) (by (with_reducible repeat (first | refine blk_drewN ?_ _ | refine blk_drew ?_ | refine blk_alloc ?_ _)); exact BK580101.out) hb); have n1_ := Aside0.mk (below_step (by repeat (first | (with_reducible first | exact HB.out | apply below_alloc | apply pw_below_drewN | apply below_drew1 | refine below_set ?_ GE580101.out) | exact HB.out)) hb); clear BK580101; clear HB; have BK580101 := n0_; have HB := n1_; clear n0_ n1_; (try clear hb); (try clear hb2); (try clear hk); (try clear hi)) | ((with_reducible refine gate_dst (N := 3) rfl ?_); refine box_event ?hg (N := 3) ?hd (cs := #[.int .i64 0, .int .i64 0, .int .i64 0, .int .i64 0, .int .i64 0]) (t := 46) ?hr ?_; (case hd => rfl); (case hg => rfl); (case hr => first | (go_simp; done) | (go_simp; rfl)); intro gb580107 hg w18 hbox hb; have n0_ := Aside0.mk (blk_below (g := gb580101) (o := .cells #[.int .i64 0, .int .i64 0, .int .i64 0, .int .i64 0, .int .i64 0] 46 (0, 0)) (by (with_reducible repeat (first | refine blk_drewN ?_ _ | refine blk_drew ?_ | refine blk_alloc ?_ _)); exact BK580101.out) hb); have n1_ := Aside0.mk (below_step (by repeat (first | (with_reducible first | exact HB.out | apply below_alloc | apply pw_below_drewN | apply below_drew1 | refine below_set ?_ GE580101.out) | exact HB.out)) hb); have n2_ := Aside0.mk (hbox); have n3_ := Aside0.mk ((by rw [hg]; exact (below_size (by repeat (first | (with_reducible first | exact HB.out | apply below_alloc | apply pw_below_drewN | apply below_drew1 | refine below_set ?_ GE580101.out) | exact HB.out))) : w.heap.size ≤ gb580107)); have n4_ := Aside0.mk ((by rw [hg]; exact (below_size (by repeat (first | (with_reducible first | exact HB.out | apply below_alloc | apply pw_below_drewN | apply below_drew1 | refine below_set ?_ GE580101.out) | exact HB.out))) : w.heap.size ≤ gb580107)); have n5_ := Aside0.mk ((by rw [hg]; exact Nat.ne_of_lt (blk_lt (g := gb580101) (o := .cells #[.int .i64 0, .int .i64 0, .int .i64 0, .int .i64 0, .int .i64 0] 46 (0, 0)) (by (with_reducible repeat (first | refine blk_drewN ?_ _ | refine blk_drew ?_ | refine blk_alloc ?_ _)); exact BK580101.out)) : gb580101 ≠ gb580107)); have n6_ := Aside0.mk ((by rw [hg]; exact Nat.ne_of_gt (blk_lt (g := gb580101) (o := .cells #[.int .i64 0, .int .i64 0, .int .i64 0, .int .i64 0, .int .i64 0] 46 (0, 0)) (by (with_reducible repeat (first | refine blk_drewN ?_ _ | refine blk_drew ?_ | refine blk_alloc ?_ _)); exact BK580101.out)) : gb580107 ≠ gb580101)); clear BK580101; clear HB; have BK580101 := n0_; have HB := n1_; have BK580107 := n2_; have GW580107 := n3_; have GE580107 := n4_; have NB580101_580107 := n5_; have NB580107_580101 := n6_; clear n0_ n1_ n2_ n3_ n4_ n5_ n6_; clear hb hbox hg; have hnb19 := NB580107_580101.out; have hnc19 := NB580101_580107.out; have hcz20_0 : w18.cell? ⟨gb580107, 0, none⟩ = some (.int .i64 0) := (blk_cell BK580107.out 0).trans rfl; have hcz20_1 : w18.cell? ⟨gb580107, 1, none⟩ = some (.int .i64 0) := (blk_cell BK580107.out 1).trans rfl; have hcz20_2 : w18.cell? ⟨gb580107, 2, none⟩ = some (.int .i64 0) := (blk_cell BK580107.out 2).trans rfl; have hcz20_3 : w18.cell? ⟨gb580107, 3, none⟩ = some (.int .i64 0) := (blk_cell BK580107.out 3).trans rfl; have hcz20_4 : w18.cell? ⟨gb580107, 4, none⟩ = some (.int .i64 0) := (blk_cell BK580107.out 4).trans rfl; have hfz20_0 := blk_frozen BK580107.out 0; have hfz20_1 := blk_frozen BK580107.out 1; have hfz20_2 := blk_frozen BK580107.out 2; have hfz20_3 := blk_frozen BK580107.out 3; have hfz20_4 := blk_frozen BK580107.out 4) | (go_at_call 59; (with_reducible refine (larderref04_text.calls k _ _ l0 t580108 _ ?side1 ?side2 A4.out).mono ?_); (case side1 => exact Kd.C_below HR0.out (by repeat (first | (with_reducible first | exact HB.out | apply below_alloc | apply pw_below_drewN | apply below_drew1 | refine below_set ?_ GE580101.out | refine below_set ?_ GE580107.out) | exact HB.out))); (case side2 => exact HC0.out); rintro e w21 ⟨v580109, rfl, ho0, hb⟩; have n0_ := Aside0.mk (Kd.R_lower ho0 (below_size (by repeat (first | (with_reducible first | exact HB.out | apply below_alloc | apply pw_below_drewN | apply below_drew1 | refine below_set ?_ GE580101.out | refine below_set ?_ GE580107.out) | exact HB.out)))); have n1_ := Aside0.mk (blk_below (g := gb580101) (o := .cells #[.int .i64 0, .int .i64 0, .int .i64 0, .int .i64 0, .int .i64 0] 46 (0, 0)) (by (with_reducible repeat (first | refine blk_drewN ?_ _ | refine blk_drew ?_ | refine blk_alloc ?_ _)); refine blk_far ?_ NB580101_580107.out _; (with_reducible repeat (first | refine blk_drewN ?_ _ | refine blk_drew ?_ | refine blk_alloc ?_ _)); refine blk_far ?_ NB580101_580107.out _; (with_reducible repeat (first | refine blk_drewN ?_ _ | refine blk_drew ?_ | refine blk_alloc ?_ _)); refine blk_far ?_ NB580101_580107.out _; (with_reducible repeat (first | refine blk_drewN ?_ _ | refine blk_drew ?_ | refine blk_alloc ?_ _)); refine blk_far ?_ NB580101_580107.out _; (with_reducible repeat (first | refine blk_drewN ?_ _ | refine blk_drew ?_ | refine blk_alloc ?_ _)); refine blk_far ?_ NB580101_580107.out _; (with_reducible repeat (first | refine blk_drewN ?_ _ | refine blk_drew ?_ | refine blk_alloc ?_ _)); exact BK580101.out) hb); have n2_ := Aside0.mk (blk_below (g := gb580107) (o := .cells #[.int .i64 t580102, .int .i64 t580103, .int .i64 t580104, .int .i64 t580105, .int .i64 t580106] 46 (0, 0)) (by (with_reducible repeat (first | refine blk_drewN ?_ _ | refine blk_drew ?_ | refine blk_alloc ?_ _)); refine blk_put (cs := #[.int .i64 t580102, .int .i64 t580103, .int .i64 t580104, .int .i64 t580105, .int .i64 0]) ?_ 4 _ rfl; (with_reducible repeat (first | refine blk_drewN ?_ _ | refine blk_drew ?_ | refine blk_alloc ?_ _)); refine blk_put (cs := #[.int .i64 t580102, .int .i64 t580103, .int .i64 t580104, .int .i64 0, .int .i64 0]) ?_ 3 _ rfl; (with_reducible repeat (first | refine blk_drewN ?_ _ | refine blk_drew ?_ | refine blk_alloc ?_ _)); refine blk_put (cs := #[.int .i64 t580102, .int .i64 t580103, .int .i64 0, .int .i64 0, .int .i64 0]) ?_ 2 _ rfl; (with_reducible repeat (first | refine blk_drewN ?_ _ | refine blk_drew ?_ | refine blk_alloc ?_ _)); refine blk_put (cs := #[.int .i64 t580102, .int .i64 0, .int .i64 0, .int .i64 0, .int .i64 0]) ?_ 1 _ rfl; (with_reducible repeat (first | refine blk_drewN ?_ _ | refine blk_drew ?_ | refine blk_alloc ?_ _)); refine blk_put (cs := #[.int .i64 0, .int .i64 0, .int .i64 0, .int .i64 0, .int .i64 0]) ?_ 0 _ rfl; (with_reducible repeat (first | refine blk_drewN ?_ _ | refine blk_drew ?_ | refine blk_alloc ?_ _)); exact BK580107.out) hb); have n3_ := Aside0.mk (below_step (by repeat (first | (with_reducible first | exact HB.out | apply below_alloc | apply pw_below_drewN | apply below_drew1 | refine below_set ?_ GE580101.out | refine below_set ?_ GE580107.out) | exact HB.out)) hb); clear BK580101; clear BK580107; clear HB; have HO580110 := n0_; have BK580101 := n1_; have BK580107 := n2_; have HB := n3_; clear n0_ n1_ n2_ n3_; (try clear hb); (try clear hb2); (try clear hk); (try clear hi); (try clear ho0); obtain ⟨Ao22, co22, eo22⟩ := Kd.R_slice HO580110.out; subst eo22; have hcz23_0 : w21.cell? ⟨gb580107, 0, none⟩ = some (.int .i64 t580102) := (blk_cell BK580107.out 0).trans rfl; have hcz23_1 : w21.cell? ⟨gb580107, 1, none⟩ = some (.int .i64 t580103) := (blk_cell BK580107.out 1).trans rfl; have hcz23_2 : w21.cell? ⟨gb580107, 2, none⟩ = some (.int .i64 t580104) := (blk_cell BK580107.out 2).trans rfl; have hcz23_3 : w21.cell? ⟨gb580107, 3, none⟩ = some (.int .i64 t580105) := (blk_cell BK580107.out 3).trans rfl; have hcz23_4 : w21.cell? ⟨gb580107, 4, none⟩ = some (.int .i64 t580106) := (blk_cell BK580107.out 4).trans rfl; have hfz23_0 := blk_frozen BK580107.out 0; have hfz23_1 := blk_frozen BK580107.out 1; have hfz23_2 := blk_frozen BK580107.out 2; have hfz23_3 := blk_frozen BK580107.out 3; have hfz23_4 := blk_frozen BK580107.out 4; have hcz24_0 : w21.cell? ⟨gb580101, 0, none⟩ = some (.int .i64 0) := (blk_cell BK580101.out 0).trans rfl; have hcz24_1 : w21.cell? ⟨gb580101, 1, none⟩ = some (.int .i64 0) := (blk_cell BK580101.out 1).trans rfl; have hcz24_2 : w21.cell? ⟨gb580101, 2, none⟩ = some (.int .i64 0) := (blk_cell BK580101.out 2).trans rfl; have hcz24_3 : w21.cell? ⟨gb580101, 3, none⟩ = some (.int .i64 0) := (blk_cell BK580101.out 3).trans rfl; have hcz24_4 : w21.cell? ⟨gb580101, 4, none⟩ = some (.int .i64 0) := (blk_cell BK580101.out 4).trans rfl; have hfz24_0 := blk_frozen BK580101.out 0; have hfz24_1 := blk_frozen BK580101.out 1; have hfz24_2 := blk_frozen BK580101.out 2; have hfz24_3 := blk_frozen BK580101.out 3; have hfz24_4 := blk_frozen BK580101.out 4))
      refine bodyPost_ret (results_cell_row rfl _ _ gb580101 46 #[.int .i64 t580102, .int .i64 t580103, .int .i64 t580104, .int .i64 t580105, .int .i64 t580106] (0, 0) _ rfl (by (with_reducible repeat (first | refine blk_drewN ?_ _ | refine blk_drew ?_ | refine blk_alloc ?_ _)); refine blk_put (cs := #[.int .i64 t580102, .int .i64 t580103, .int .i64 t580104, .int .i64 t580105, .int .i64 0]) ?_ 4 _ rfl; (with_reducible repeat (first | refine blk_drewN ?_ _ | refine blk_drew ?_ | refine blk_alloc ?_ _)); refine blk_put (cs := #[.int .i64 t580102, .int .i64 t580103, .int .i64 t580104, .int .i64 0, .int .i64 0]) ?_ 3 _ rfl; (with_reducible repeat (first | refine blk_drewN ?_ _ | refine blk_drew ?_ | refine blk_alloc ?_ _)); refine blk_put (cs := #[.int .i64 t580102, .int .i64 t580103, .int .i64 0, .int .i64 0, .int .i64 0]) ?_ 2 _ rfl; (with_reducible repeat (first | refine blk_drewN ?_ _ | refine blk_drew ?_ | refine blk_alloc ?_ _)); refine blk_put (cs := #[.int .i64 t580102, .int .i64 0, .int .i64 0, .int .i64 0, .int .i64 0]) ?_ 1 _ rfl; (with_reducible repeat (first | refine blk_drewN ?_ _ | refine blk_drew ?_ | refine blk_alloc ?_ _)); refine blk_put (cs := #[.int .i64 0, .int .i64 0, .int .i64 0, .int .i64 0, .int .i64 0]) ?_ 0 _ rfl; (with_reducible repeat (first | refine blk_drewN ?_ _ | refine blk_drew ?_ | refine blk_alloc ?_ _)); exact BK580101.out) Tryz.underlying46 rfl (by kernel_rfl)) rfl ?_
      exact ⟨by first | rfl | (simp [errW_none, errW_some] <;> rfl) | (simp [*, errW_none, errW_some] <;> rfl), by repeat (first | (with_reducible first | exact HB.out | apply below_alloc | apply pw_below_drewN | apply below_drew1 | refine below_set ?_ GE580101.out | refine below_set ?_ GE580107.out) | exact HB.out)⟩
  · rw [if_neg c3] at H
    have c3b0 : (t580102 == 0) = false := beq_eq_false_iff_ne.mpr c3
    have c3b1 : (t580102 != 0) = true := bne_iff_ne.mpr c3
    simp only [Option.some.injEq, Prod.mk.injEq] at H
    obtain ⟨rfl, rfl, rfl, rfl, rfl⟩ := H
    go_enter Tryz.func58, Tryz.ntmps58
    go_wp2_with (first | ((with_reducible refine gate_dst (N := 2) rfl ?_); refine box_event ?hg (N := 2) ?hd (cs := #[.int .i64 0, .int .i64 0, .int .i64 0, .int .i64 0, .int .i64 0]) (t := 46) ?hr ?_; (case hd => rfl); (case hg => rfl); (case hr => first | (go_simp; done) | (go_simp; rfl)); intro gb580101 hg w25 hbox hb; have n0_ := Aside0.mk (below_step (by repeat (first | (with_reducible first | exact HB.out | apply below_alloc | apply pw_below_drewN | apply below_drew1) | exact HB.out)) hb); have n1_ := Aside0.mk (hbox); have n2_ := Aside0.mk ((by rw [hg]; exact (below_size (by repeat (first | (with_reducible first | exact HB.out | apply below_alloc | apply pw_below_drewN | apply below_drew1) | exact HB.out))) : w.heap.size ≤ gb580101)); have n3_ := Aside0.mk ((by rw [hg]; exact (below_size (by repeat (first | (with_reducible first | exact HB.out | apply below_alloc | apply pw_below_drewN | apply below_drew1) | exact HB.out))) : w.heap.size ≤ gb580101)); clear HB; have HB := n0_; have BK580101 := n1_; have GW580101 := n2_; have GE580101 := n3_; clear n0_ n1_ n2_ n3_; clear hb hbox hg) | ((with_reducible refine gate_callee (f := 80) rfl ?_); refine goesL_ (some 5) rfl rfl Tryz.func80 (by kernel_rfl) rfl #[.slice A0 l0.length c0] rfl (by (try simp only [List.map_toArray, List.map_cons, List.map_nil]); first | done | rfl | (simp only [List.length_drop, List.length_take]; rfl)) ?_; (with_reducible refine (larderref04_wrong.calls k _ _ l0 t580102 t580103 t580104 t580105 t580106 _ ?side1 ?side2 A2.out).mono ?_); (case side1 => repeat (first | exact (Kd.C_below HR0.out HB.out) | (with_reducible refine Kd.C_alloc ?_ _) | (with_reducible refine Kd.C_drewN ?_ _) | (with_reducible refine Kd.C_drew ?_))); (case side2 => exact HC0.out); rintro e w26 ⟨rfl, hb⟩; refine ⟨_, rfl, ?_⟩; have n0_ := Aside0.mk (blk_below (g := gb580101) (o := .cells #[.int .i64 0, .int .i64 0, .int .i64 0, .int .i64 0, .int .i64 0] 46 (0, 0)) (by (with_reducible repeat (first | refine blk_drewN ?_ _ | refine blk_drew ?_ | refine blk_alloc ?_ _)); exact BK580101.out) hb); have n1_ := Aside0.mk (below_step (by repeat (first | (with_reducible first | exact HB.out | apply below_alloc | apply pw_below_drewN | apply below_drew1 | refine below_set ?_ GE580101.out) | exact HB.out)) hb); clear BK580101; clear HB; have BK580101 := n0_; have HB := n1_; clear n0_ n1_; (try clear hb); (try clear hb2); (try clear hk); (try clear hi)) | ((with_reducible refine gate_dst (N := 3) rfl ?_); refine box_event ?hg (N := 3) ?hd (cs := #[.int .i64 0, .int .i64 0, .int .i64 0, .int .i64 0, .int .i64 0]) (t := 46) ?hr ?_; (case hd => rfl); (case hg => rfl); (case hr => first | (go_simp; done) | (go_simp; rfl)); intro gb580107 hg w27 hbox hb; have n0_ := Aside0.mk (blk_below (g := gb580101) (o := .cells #[.int .i64 0, .int .i64 0, .int .i64 0, .int .i64 0, .int .i64 0] 46 (0, 0)) (by (with_reducible repeat (first | refine blk_drewN ?_ _ | refine blk_drew ?_ | refine blk_alloc ?_ _)); exact BK580101.out) hb); have n1_ := Aside0.mk (below_step (by repeat (first | (with_reducible first | exact HB.out | apply below_alloc | apply pw_below_drewN | apply below_drew1 | refine below_set ?_ GE580101.out) | exact HB.out)) hb); have n2_ := Aside0.mk (hbox); have n3_ := Aside0.mk ((by rw [hg]; exact (below_size (by repeat (first | (with_reducible first | exact HB.out | apply below_alloc | apply pw_below_drewN | apply below_drew1 | refine below_set ?_ GE580101.out) | exact HB.out))) : w.heap.size ≤ gb580107)); have n4_ := Aside0.mk ((by rw [hg]; exact (below_size (by repeat (first | (with_reducible first | exact HB.out | apply below_alloc | apply pw_below_drewN | apply below_drew1 | refine below_set ?_ GE580101.out) | exact HB.out))) : w.heap.size ≤ gb580107)); have n5_ := Aside0.mk ((by rw [hg]; exact Nat.ne_of_lt (blk_lt (g := gb580101) (o := .cells #[.int .i64 0, .int .i64 0, .int .i64 0, .int .i64 0, .int .i64 0] 46 (0, 0)) (by (with_reducible repeat (first | refine blk_drewN ?_ _ | refine blk_drew ?_ | refine blk_alloc ?_ _)); exact BK580101.out)) : gb580101 ≠ gb580107)); have n6_ := Aside0.mk ((by rw [hg]; exact Nat.ne_of_gt (blk_lt (g := gb580101) (o := .cells #[.int .i64 0, .int .i64 0, .int .i64 0, .int .i64 0, .int .i64 0] 46 (0, 0)) (by (with_reducible repeat (first | refine blk_drewN ?_ _ | refine blk_drew ?_ | refine blk_alloc ?_ _)); exact BK580101.out)) : gb580107 ≠ gb580101)); clear BK580101; clear HB; have BK580101 := n0_; have HB := n1_; have BK580107 := n2_; have GW580107 := n3_; have GE580107 := n4_; have NB580101_580107 := n5_; have NB580107_580101 := n6_; clear n0_ n1_ n2_ n3_ n4_ n5_ n6_; clear hb hbox hg; have hnb28 := NB580107_580101.out; have hnc28 := NB580101_580107.out; have hcz29_0 : w27.cell? ⟨gb580107, 0, none⟩ = some (.int .i64 0) := (blk_cell BK580107.out 0).trans rfl; have hcz29_1 : w27.cell? ⟨gb580107, 1, none⟩ = some (.int .i64 0) := (blk_cell BK580107.out 1).trans rfl; have hcz29_2 : w27.cell? ⟨gb580107, 2, none⟩ = some (.int .i64 0) := (blk_cell BK580107.out 2).trans rfl; have hcz29_3 : w27.cell? ⟨gb580107, 3, none⟩ = some (.int .i64 0) := (blk_cell BK580107.out 3).trans rfl; have hcz29_4 : w27.cell? ⟨gb580107, 4, none⟩ = some (.int .i64 0) := (blk_cell BK580107.out 4).trans rfl; have hfz29_0 := blk_frozen BK580107.out 0; have hfz29_1 := blk_frozen BK580107.out 1; have hfz29_2 := blk_frozen BK580107.out 2; have hfz29_3 := blk_frozen BK580107.out 3; have hfz29_4 := blk_frozen BK580107.out 4; have hcz30_0 : w27.cell? ⟨gb580101, 0, none⟩ = some (.int .i64 0) := (blk_cell BK580101.out 0).trans rfl; have hcz30_1 : w27.cell? ⟨gb580101, 1, none⟩ = some (.int .i64 0) := (blk_cell BK580101.out 1).trans rfl; have hcz30_2 : w27.cell? ⟨gb580101, 2, none⟩ = some (.int .i64 0) := (blk_cell BK580101.out 2).trans rfl; have hcz30_3 : w27.cell? ⟨gb580101, 3, none⟩ = some (.int .i64 0) := (blk_cell BK580101.out 3).trans rfl; have hcz30_4 : w27.cell? ⟨gb580101, 4, none⟩ = some (.int .i64 0) := (blk_cell BK580101.out 4).trans rfl; have hfz30_0 := blk_frozen BK580101.out 0; have hfz30_1 := blk_frozen BK580101.out 1; have hfz30_2 := blk_frozen BK580101.out 2; have hfz30_3 := blk_frozen BK580101.out 3; have hfz30_4 := blk_frozen BK580101.out 4))
    refine bodyPost_ret (results_cell_row rfl _ _ gb580101 46 #[.int .i64 t580102, .int .i64 t580103, .int .i64 t580104, .int .i64 t580105, .int .i64 t580106] (0, 0) _ rfl (by (with_reducible repeat (first | refine blk_drewN ?_ _ | refine blk_drew ?_ | refine blk_alloc ?_ _)); refine blk_put (cs := #[.int .i64 t580102, .int .i64 t580103, .int .i64 t580104, .int .i64 t580105, .int .i64 0]) ?_ 4 _ rfl; (with_reducible repeat (first | refine blk_drewN ?_ _ | refine blk_drew ?_ | refine blk_alloc ?_ _)); refine blk_put (cs := #[.int .i64 t580102, .int .i64 t580103, .int .i64 t580104, .int .i64 0, .int .i64 0]) ?_ 3 _ rfl; (with_reducible repeat (first | refine blk_drewN ?_ _ | refine blk_drew ?_ | refine blk_alloc ?_ _)); refine blk_put (cs := #[.int .i64 t580102, .int .i64 t580103, .int .i64 0, .int .i64 0, .int .i64 0]) ?_ 2 _ rfl; (with_reducible repeat (first | refine blk_drewN ?_ _ | refine blk_drew ?_ | refine blk_alloc ?_ _)); refine blk_put (cs := #[.int .i64 t580102, .int .i64 0, .int .i64 0, .int .i64 0, .int .i64 0]) ?_ 1 _ rfl; (with_reducible repeat (first | refine blk_drewN ?_ _ | refine blk_drew ?_ | refine blk_alloc ?_ _)); refine blk_put (cs := #[.int .i64 0, .int .i64 0, .int .i64 0, .int .i64 0, .int .i64 0]) ?_ 0 _ rfl; (with_reducible repeat (first | refine blk_drewN ?_ _ | refine blk_drew ?_ | refine blk_alloc ?_ _)); refine blk_far ?_ NB580101_580107.out _; (with_reducible repeat (first | refine blk_drewN ?_ _ | refine blk_drew ?_ | refine blk_alloc ?_ _)); refine blk_far ?_ NB580101_580107.out _; (with_reducible repeat (first | refine blk_drewN ?_ _ | refine blk_drew ?_ | refine blk_alloc ?_ _)); refine blk_far ?_ NB580101_580107.out _; (with_reducible repeat (first | refine blk_drewN ?_ _ | refine blk_drew ?_ | refine blk_alloc ?_ _)); refine blk_far ?_ NB580101_580107.out _; (with_reducible repeat (first | refine blk_drewN ?_ _ | refine blk_drew ?_ | refine blk_alloc ?_ _)); refine blk_far ?_ NB580101_580107.out _; (with_reducible repeat (first | refine blk_drewN ?_ _ | refine blk_drew ?_ | refine blk_alloc ?_ _)); exact BK580101.out) Tryz.underlying46 rfl (by kernel_rfl)) rfl ?_
    exact ⟨by first | rfl | (simp [errW_none, errW_some] <;> rfl) | (simp [*, errW_none, errW_some] <;> rfl), by repeat (first | (with_reducible first | exact HB.out | apply below_alloc | apply pw_below_drewN | apply below_drew1 | refine below_set ?_ GE580101.out | refine below_set ?_ GE580107.out) | exact HB.out)⟩

end Go.Proofs.YtappphffbnkloaaGreatDoor.GS
namespace Go.Proofs.YtappphffbnkloaaGreatDoor.GS
open Go.RowKit Go.Proofs.YtappphffbnkloaaGreatDoorW.PrintWords Go.Proofs.YtappphffbnkloaaGreatDoorW.PrintLast Go.Proofs.YtappphffbnkloaaGreatDoor.Ext
attribute [local go_sem] max2_int min2_int max_two min_two   -- for this text alone
set_option linter.unusedVariables false
set_option linter.unusedSimpArgs false

/-! ### larderref04_Print: function 21 -/
def larderref04_Print.f (k : Nat) (l0 : List (List ByteArray)) : Option (ByteArray × Int × Int × Int × Int × Int) := (larderref04_Wrong.f k l0).bind fun bt210102 => (if bt210102.1 = 0 then ((larderref04_text.f k l0).bind fun t210108 => (some (strOfNums t210108, bt210102.1, bt210102.2.1, bt210102.2.2.1, bt210102.2.2.2.1, bt210102.2.2.2.2))) else (some ((⟨#[]⟩ : ByteArray), bt210102.1, bt210102.2.1, bt210102.2.2.1, bt210102.2.2.2.1, bt210102.2.2.2.2)))
theorem larderref04_Print.mono : ∀ a0 k, LeO (larderref04_Print.f k a0) (larderref04_Print.f (k + 1) a0) := by
  intro a0 k
  unfold larderref04_Print.f
  repeat' first
      | (with_reducible exact larderref04_Wrong.mono _ _)
      | (with_reducible exact larderref04_text.mono _ _)
      | (with_reducible exact LeO.refl _)
      | (with_reducible exact LeO.none _)
      | (with_reducible refine LeO.ite ?_ ?_)
      | (with_reducible refine LeO.bind ?_ (fun _ => ?_))
      | exact larderref04_Wrong.mono _ _
      | exact larderref04_text.mono _ _
      | exact LeO.none _
      | refine LeO.ite ?_ ?_
      | refine LeO.bind ?_ (fun _ => ?_)
set_option maxHeartbeats 8000000 in
set_option maxRecDepth 100000 in
theorem larderref04_Print.calls (k : Nat) (A0 : Option Addr) (c0 : Nat) (l0 : List (List ByteArray)) (r1 : ByteArray) (r2 : Int) (r3 : Int) (r4 : Int) (r5 : Int) (r6 : Int) (w : World) (hr0 : Kd.C (Kd.slice 9 Kd.string) w A0 l0.length l0) (hc0 : l0.length ≤ c0) (h : larderref04_Print.f k l0 = some (r1, r2, r3, r4, r5, r6)) :
    Calls Tryz.prog 21 #[.slice A0 l0.length c0] w fun e w' => e = .returned (.tuple #[.string r1, .agg #[.int .i64 r2, .int .i64 r3, .int .i64 r4, .int .i64 r5, .int .i64 r6]]) ∧ Below w.heap.size w w' := by
  have hu46 := Tryz.underlying46
  have HR0 := Aside0.mk hr0
  have HC0 := Aside0.mk hc0
  clear hr0 hc0
  have HB := Aside0.mk (Below.refl w.heap.size w)
  have H : ((larderref04_Wrong.f k l0).bind fun bt210102 => (if bt210102.1 = 0 then ((larderref04_text.f k l0).bind fun t210108 => (some (strOfNums t210108, bt210102.1, bt210102.2.1, bt210102.2.2.1, bt210102.2.2.2.1, bt210102.2.2.2.2))) else (some ((⟨#[]⟩ : ByteArray), bt210102.1, bt210102.2.1, bt210102.2.2.1, bt210102.2.2.2.1, bt210102.2.2.2.2)))) = some (r1, r2, r3, r4, r5, r6) := h
  clear h
  replace H := Option.bind_eq_some_iff.mp H
  obtain ⟨⟨t210102, t210103, t210104, t210105, t210106⟩, A20, H⟩ := H
  replace H : (if t210102 = 0 then ((larderref04_text.f k l0).bind fun t210108 => (some (strOfNums t210108, t210102, t210103, t210104, t210105, t210106))) else (some ((⟨#[]⟩ : ByteArray), t210102, t210103, t210104, t210105, t210106))) = some (r1, r2, r3, r4, r5, r6) := H
  have A2 := Aside0.mk A20
  clear A20
  by_cases c3 : t210102 = 0
  · rw [if_pos c3] at H
    have c3b0 : (t210102 == 0) = true := beq_iff_eq.mpr c3
    have c3b1 : (t210102 != 0) = false := bne_eq_false_iff_eq.mpr c3
    clear c3
    replace H := Option.bind_eq_some_iff.mp H
    obtain ⟨t210108, A40, H⟩ := H
    replace H : (some (strOfNums t210108, t210102, t210103, t210104, t210105, t210106)) = some (r1, r2, r3, r4, r5, r6) := H
    have A4 := Aside0.mk A40
    clear A40
    simp only [Option.some.injEq, Prod.mk.injEq] at H
    obtain ⟨rfl, rfl, rfl, rfl, rfl, rfl⟩ := H
    go_enter Tryz.func21, Tryz.ntmps21
    try go_wp2_with (first | ((with_reducible refine gate_dst (N := 3) rfl ?_); refine box_event ?hg (N := 3) ?hd (cs := #[.int .i64 0, .int .i64 0, .int .i64 0, .int .i64 0, .int .i64 0]) (t := 46) ?hr ?_; (case hd => rfl); (case hg => rfl); (case hr => first | (go_simp; done) | (go_simp; rfl)); intro gb210101 hg w5 hbox hb; have n0_ := Aside0.mk (below_step (by repeat (first | (with_reducible first | exact HB.out | apply below_alloc | apply pw_below_drewN | apply below_drew1) | exact HB.out)) hb); have n1_ := Aside0.mk (hbox); have n2_ := Aside0.mk ((by rw [hg]; exact (below_size (by repeat (first | (with_reducible first | exact HB.out | apply below_alloc | apply pw_below_drewN | apply below_drew1) | exact HB.out))) : w.heap.size ≤ gb210101)); have n3_ := Aside0.mk ((by rw [hg]; exact (below_size (by repeat (first | (with_reducible first | exact HB.out | apply below_alloc | apply pw_below_drewN | apply below_drew1) | exact HB.out))) : w.heap.size ≤ gb210101)); clear HB; have HB := n0_; have BK210101 := n1_; have GW210101 := n2_; have GE210101 := n3_; clear n0_ n1_ n2_ n3_; clear hb hbox hg) | ((with_reducible refine gate_callee (f := 58) rfl ?_); refine goesL_ (some 6) rfl rfl Tryz.func58 (by kernel_rfl) rfl #[.slice A0 l0.length c0] rfl (by (try simp only [List.map_toArray, List.map_cons, List.map_nil]); first | done | rfl | (simp only [List.length_drop, List.length_take]; rfl)) ?_; (with_reducible refine (larderref04_Wrong.calls k _ _ l0 t210102 t210103 t210104 t210105 t210106 _ ?side1 ?side2 A2.out).mono ?_); (case side1 => repeat (first | exact (Kd.C_below HR0.out HB.out) | (with_reducible refine Kd.C_alloc ?_ _) | (with_reducible refine Kd.C_drewN ?_ _) | (with_reducible refine Kd.C_drew ?_))); (case side2 => exact HC0.out); rintro e w6 ⟨rfl, hb⟩; refine ⟨_, rfl, ?_⟩; have n0_ := Aside0.mk (blk_below (g := gb210101) (o := .cells #[.int .i64 0, .int .i64 0, .int .i64 0, .int .i64 0, .int .i64 0] 46 (0, 0)) (by (with_reducible repeat (first | refine blk_drewN ?_ _ | refine blk_drew ?_ | refine blk_alloc ?_ _)); exact BK210101.out) hb); have n1_ := Aside0.mk (below_step (by repeat (first | (with_reducible first | exact HB.out | apply below_alloc | apply pw_below_drewN | apply below_drew1 | refine below_set ?_ GE210101.out) | exact HB.out)) hb); clear BK210101; clear HB; have BK210101 := n0_; have HB := n1_; clear n0_ n1_; (try clear hb); (try clear hb2); (try clear hk); (try clear hi)) | ((with_reducible refine gate_dst (N := 4) rfl ?_); refine box_event ?hg (N := 4) ?hd (cs := #[.int .i64 0, .int .i64 0, .int .i64 0, .int .i64 0, .int .i64 0]) (t := 46) ?hr ?_; (case hd => rfl); (case hg => rfl); (case hr => first | (go_simp; done) | (go_simp; rfl)); intro gb210107 hg w7 hbox hb; have n0_ := Aside0.mk (blk_below (g := gb210101) (o := .cells #[.int .i64 0, .int .i64 0, .int .i64 0, .int .i64 0, .int .i64 0] 46 (0, 0)) (by (with_reducible repeat (first | refine blk_drewN ?_ _ | refine blk_drew ?_ | refine blk_alloc ?_ _)); exact BK210101.out) hb); have n1_ := Aside0.mk (below_step (by repeat (first | (with_reducible first | exact HB.out | apply below_alloc | apply pw_below_drewN | apply below_drew1 | refine below_set ?_ GE210101.out) | exact HB.out)) hb); have n2_ := Aside0.mk (hbox); have n3_ := Aside0.mk ((by rw [hg]; exact (below_size (by repeat (first | (with_reducible first | exact HB.out | apply below_alloc | apply pw_below_drewN | apply below_drew1 | refine below_set ?_ GE210101.out) | exact HB.out))) : w.heap.size ≤ gb210107)); have n4_ := Aside0.mk ((by rw [hg]; exact (below_size (by repeat (first | (with_reducible first | exact HB.out | apply below_alloc | apply pw_below_drewN | apply below_drew1 | refine below_set ?_ GE210101.out) | exact HB.out))) : w.heap.size ≤ gb210107)); have n5_ := Aside0.mk ((by rw [hg]; exact Nat.ne_of_lt (blk_lt (g := gb210101) (o := .cells #[.int .i64 0, .int .i64 0, .int .i64 0, .int .i64 0, .int .i64 0] 46 (0, 0)) (by (with_reducible repeat (first | refine blk_drewN ?_ _ | refine blk_drew ?_ | refine blk_alloc ?_ _)); exact BK210101.out)) : gb210101 ≠ gb210107)); have n6_ := Aside0.mk ((by rw [hg]; exact Nat.ne_of_gt (blk_lt (g := gb210101) (o := .cells #[.int .i64 0, .int .i64 0, .int .i64 0, .int .i64 0, .int .i64 0] 46 (0, 0)) (by (with_reducible repeat (first | refine blk_drewN ?_ _ | refine blk_drew ?_ | refine blk_alloc ?_ _)); exact BK210101.out)) : gb210107 ≠ gb210101)); clear BK210101; clear HB; have BK210101 := n0_; have HB := n1_; have BK210107 := n2_; have GW210107 := n3_; have GE210107 := n4_; have NB210101_210107 := n5_; have NB210107_210101 := n6_; clear n0_ n1_ n2_ n3_ n4_ n5_ n6_; clear hb hbox hg; have hnb8 := NB210107_210101.out; have hnc8 := NB210101_210107.out; have hcz9_0 : w7.cell? ⟨gb210107, 0, none⟩ = some (.int .i64 0) := (blk_cell BK210107.out 0).trans rfl; have hcz9_1 : w7.cell? ⟨gb210107, 1, none⟩ = some (.int .i64 0) := (blk_cell BK210107.out 1).trans rfl; have hcz9_2 : w7.cell? ⟨gb210107, 2, none⟩ = some (.int .i64 0) := (blk_cell BK210107.out 2).trans rfl; have hcz9_3 : w7.cell? ⟨gb210107, 3, none⟩ = some (.int .i64 0) := (blk_cell BK210107.out 3).trans rfl; have hcz9_4 : w7.cell? ⟨gb210107, 4, none⟩ = some (.int .i64 0) := (blk_cell BK210107.out 4).trans rfl; have hfz9_0 := blk_frozen BK210107.out 0; have hfz9_1 := blk_frozen BK210107.out 1; have hfz9_2 := blk_frozen BK210107.out 2; have hfz9_3 := blk_frozen BK210107.out 3; have hfz9_4 := blk_frozen BK210107.out 4))
    have n0_ : Aside0 ((((((w7.setCell ⟨gb210107, 0, none⟩ (.int .i64 t210102)).setCell ⟨gb210107, 1, none⟩ (.int .i64 t210103)).setCell ⟨gb210107, 2, none⟩ (.int .i64 t210104)).setCell ⟨gb210107, 3, none⟩ (.int .i64 t210105)).setCell ⟨gb210107, 4, none⟩ (.int .i64 t210106)).heap[gb210101]? = some (.cells #[.int .i64 0, .int .i64 0, .int .i64 0, .int .i64 0, .int .i64 0] 46 (0, 0))) := ⟨by (with_reducible repeat (first | refine blk_drewN ?_ _ | refine blk_drew ?_ | refine blk_alloc ?_ _)); refine blk_far ?_ NB210101_210107.out _; (with_reducible repeat (first | refine blk_drewN ?_ _ | refine blk_drew ?_ | refine blk_alloc ?_ _)); refine blk_far ?_ NB210101_210107.out _; (with_reducible repeat (first | refine blk_drewN ?_ _ | refine blk_drew ?_ | refine blk_alloc ?_ _)); refine blk_far ?_ NB210101_210107.out _; (with_reducible repeat (first | refine blk_drewN ?_ _ | refine blk_drew ?_ | refine blk_alloc ?_ _)); refine blk_far ?_ NB210101_210107.out _; (with_reducible repeat (first | refine blk_drewN ?_ _ | refine blk_drew ?_ | refine blk_alloc ?_ _)); refine blk_far ?_ NB210101_210107.out _; (with_reducible repeat (first | refine blk_drewN ?_ _ | refine blk_drew ?_ | refine blk_alloc ?_ _)); exact BK210101.out⟩
    have n1_ : Aside0 ((((((w7.setCell ⟨gb210107, 0, none⟩ (.int .i64 t210102)).setCell ⟨gb210107, 1, none⟩ (.int .i64 t210103)).setCell ⟨gb210107, 2, none⟩ (.int .i64 t210104)).setCell ⟨gb210107, 3, none⟩ (.int .i64 t210105)).setCell ⟨gb210107, 4, none⟩ (.int .i64 t210106)).heap[gb210107]? = some (.cells #[.int .i64 t210102, .int .i64 t210103, .int .i64 t210104, .int .i64 t210105, .int .i64 t210106] 46 (0, 0))) := ⟨by (with_reducible repeat (first | refine blk_drewN ?_ _ | refine blk_drew ?_ | refine blk_alloc ?_ _)); refine blk_put (cs := #[.int .i64 t210102, .int .i64 t210103, .int .i64 t210104, .int .i64 t210105, .int .i64 0]) ?_ 4 _ rfl; (with_reducible repeat (first | refine blk_drewN ?_ _ | refine blk_drew ?_ | refine blk_alloc ?_ _)); refine blk_put (cs := #[.int .i64 t210102, .int .i64 t210103, .int .i64 t210104, .int .i64 0, .int .i64 0]) ?_ 3 _ rfl; (with_reducible repeat (first | refine blk_drewN ?_ _ | refine blk_drew ?_ | refine blk_alloc ?_ _)); refine blk_put (cs := #[.int .i64 t210102, .int .i64 t210103, .int .i64 0, .int .i64 0, .int .i64 0]) ?_ 2 _ rfl; (with_reducible repeat (first | refine blk_drewN ?_ _ | refine blk_drew ?_ | refine blk_alloc ?_ _)); refine blk_put (cs := #[.int .i64 t210102, .int .i64 0, .int .i64 0, .int .i64 0, .int .i64 0]) ?_ 1 _ rfl; (with_reducible repeat (first | refine blk_drewN ?_ _ | refine blk_drew ?_ | refine blk_alloc ?_ _)); refine blk_put (cs := #[.int .i64 0, .int .i64 0, .int .i64 0, .int .i64 0, .int .i64 0]) ?_ 0 _ rfl; (with_reducible repeat (first | refine blk_drewN ?_ _ | refine blk_drew ?_ | refine blk_alloc ?_ _)); exact BK210107.out⟩
    have n2_ : Aside0 (Below w.heap.size w (((((w7.setCell ⟨gb210107, 0, none⟩ (.int .i64 t210102)).setCell ⟨gb210107, 1, none⟩ (.int .i64 t210103)).setCell ⟨gb210107, 2, none⟩ (.int .i64 t210104)).setCell ⟨gb210107, 3, none⟩ (.int .i64 t210105)).setCell ⟨gb210107, 4, none⟩ (.int .i64 t210106))) := ⟨by repeat (first | (with_reducible first | exact HB.out | apply below_alloc | apply pw_below_drewN | apply below_drew1 | refine below_set ?_ GE210101.out | refine below_set ?_ GE210107.out) | exact HB.out)⟩
    (try clear BK210101)
    (try clear BK210107)
    (try clear HB)
    generalize (((((w7.setCell ⟨gb210107, 0, none⟩ (.int .i64 t210102)).setCell ⟨gb210107, 1, none⟩ (.int .i64 t210103)).setCell ⟨gb210107, 2, none⟩ (.int .i64 t210104)).setCell ⟨gb210107, 3, none⟩ (.int .i64 t210105)).setCell ⟨gb210107, 4, none⟩ (.int .i64 t210106)) = w10 at n0_ n1_ n2_ ⊢
    have BK210101 := n0_
    have BK210107 := n1_
    have HB := n2_
    clear n0_ n1_ n2_
    have n0_ := Aside0.mk (blk_drew BK210101.out)
    have n1_ := Aside0.mk (blk_drew BK210107.out)
    have n2_ := Aside0.mk (below_drew1 HB.out)
    clear BK210101
    clear BK210107
    clear HB
    have BK210101 := n0_
    have BK210107 := n1_
    have HB := n2_
    clear n0_ n1_ n2_
    refine start_ (n := 6) (S := fun w' => w'.cell? ⟨gb210107, 0, none⟩ = some (.int .i64 t210102) ∧ w'.cell? ⟨gb210107, 1, none⟩ = some (.int .i64 t210103) ∧ w'.cell? ⟨gb210107, 2, none⟩ = some (.int .i64 t210104) ∧ w'.cell? ⟨gb210107, 3, none⟩ = some (.int .i64 t210105) ∧ w'.cell? ⟨gb210107, 4, none⟩ = some (.int .i64 t210106)) (ds := []) #[false, false, false, false, false, false] (by kernel_rfl) rfl rfl ⟨(blk_cell BK210107.out 0).trans rfl, (blk_cell BK210107.out 1).trans rfl, (blk_cell BK210107.out 2).trans rfl, (blk_cell BK210107.out 3).trans rfl, (blk_cell BK210107.out 4).trans rfl⟩ (fun hHeld => ?_)
    generalize w10.drew = w11 at BK210101 BK210107 HB hHeld ⊢
    refine pure_ (i := 0) (N := some 11) (v := ?_) (a' := ?_) #[true, false, false, false, false, false] rfl rfl (by kernel_rfl) (fun _ _ _ h => h) (Or.inl ⟨by rfl, ?_⟩) ?_ ?_
    rotate_left
    · intro w'
      go_simp
      with_reducible rfl
    rotate_left
    · simp only [Act.put, List.setIfInBounds_toArray, List.set_cons_zero, List.set_cons_succ, i64_w, i32_w]
      rfl
    refine take_ (i := 3) (N := some 14) (v := ?_) (a' := ?_) #[true, false, false, true, false, false] rfl rfl (by kernel_rfl) (fun _ _ _ h => h) (Or.inl ⟨by rfl, ?_⟩) hHeld ?_ ?_
    rotate_left
    · rintro w' ⟨s0, s1, s2, s3, s4⟩
      go_simp
      with_reducible rfl
    rotate_left
    · simp only [Act.put, List.setIfInBounds_toArray, List.set_cons_zero, List.set_cons_succ, i64_w, i32_w]
      rfl
    refine one_ (i := 1) (N := some 12) #[true, true, false, true, false, false] rfl rfl (by kernel_rfl) (by decide) (fun K hK => ?_)
    refine goes_ Tryz.func59 (by kernel_rfl) rfl #[.slice A0 l0.length c0] (by rfl) rfl rfl (by (try simp only [List.map_toArray, List.map_cons, List.map_nil]); first | done | rfl | (simp only [List.length_drop, List.length_take]; rfl)) ?_
    with_reducible refine (larderref04_text.calls k _ _ l0 t210108 _ ?side1 ?side2 A4.out).mono ?_
    (case side1 => repeat (first | exact (Kd.C_below HR0.out HB.out) | (with_reducible refine Kd.C_alloc ?_ _) | (with_reducible refine Kd.C_drewN ?_ _) | (with_reducible refine Kd.C_drew ?_)))
    (case side2 => exact HC0.out)
    rintro e w12 ⟨v210109, rfl, ho0, hb⟩
    refine ⟨_, rfl, ?_⟩
    have n0_ := Aside0.mk (Kd.R_lower ho0 (below_size (by repeat (first | (with_reducible first | exact HB.out | apply below_alloc | apply pw_below_drewN | apply below_drew1 | refine below_set ?_ GE210101.out | refine below_set ?_ GE210107.out) | exact HB.out))))
    have n1_ := Aside0.mk (blk_below (g := gb210101) (o := .cells #[.int .i64 0, .int .i64 0, .int .i64 0, .int .i64 0, .int .i64 0] 46 (0, 0)) (by (with_reducible repeat (first | refine blk_drewN ?_ _ | refine blk_drew ?_ | refine blk_alloc ?_ _)); exact BK210101.out) hb)
    have n2_ := Aside0.mk (blk_below (g := gb210107) (o := .cells #[.int .i64 t210102, .int .i64 t210103, .int .i64 t210104, .int .i64 t210105, .int .i64 t210106] 46 (0, 0)) (by (with_reducible repeat (first | refine blk_drewN ?_ _ | refine blk_drew ?_ | refine blk_alloc ?_ _)); exact BK210107.out) hb)
    have n3_ := Aside0.mk (below_step (by repeat (first | (with_reducible first | exact HB.out | apply below_alloc | apply pw_below_drewN | apply below_drew1 | refine below_set ?_ GE210101.out | refine below_set ?_ GE210107.out) | exact HB.out)) hb)
    clear BK210101
    clear BK210107
    clear HB
    have HO210110 := n0_
    have BK210101 := n1_
    have BK210107 := n2_
    have HB := n3_
    clear n0_ n1_ n2_ n3_
    (try clear hb)
    (try clear hb2)
    (try clear hk)
    (try clear hi)
    (try clear ho0)
    refine hK.out _ _ ⟨(blk_cell BK210107.out 0).trans rfl, (blk_cell BK210107.out 1).trans rfl, (blk_cell BK210107.out 2).trans rfl, (blk_cell BK210107.out 3).trans rfl, (blk_cell BK210107.out 4).trans rfl⟩ (fun hHeld => ?_)
    clear hK K
    refine norm_ (a' := ?_) ?_ ?_
    rotate_left
    · show Act.put _ (some 12) _ = _
      simp only [Act.put, List.setIfInBounds_toArray, List.set_cons_zero, List.set_cons_succ, i64_w, i32_w]
      rfl
    refine one_ (i := 2) (N := some 13) #[true, true, true, true, false, false] rfl rfl (by kernel_rfl) (by decide) (fun K hK => ?_)
    have hcv13 := own_string (P := Tryz.prog) Tryz.underlying37 Tryz.underlying5 Tryz.underlying9 (Kd.own_of_R HO210110.out)
    refine value_ (w1 := ?_) (v := ?_) (by rfl) rfl ?_ ?_
    rotate_left 2
    · go_simp
      constructor
      · rfl
      · rfl
    clear hcv13
    refine hK.out _ _ ⟨(blk_cell BK210107.out 0).trans rfl, (blk_cell BK210107.out 1).trans rfl, (blk_cell BK210107.out 2).trans rfl, (blk_cell BK210107.out 3).trans rfl, (blk_cell BK210107.out 4).trans rfl⟩ (fun hHeld => ?_)
    clear hK K
    refine norm_ (a' := ?_) ?_ ?_
    rotate_left
    · show Act.put _ (some 13) _ = _
      simp only [Act.put, List.setIfInBounds_toArray, List.set_cons_zero, List.set_cons_succ, i64_w, i32_w]
      rfl
    refine pure_ (i := 4) (N := some 2) (v := ?_) (a' := ?_) #[true, true, true, true, true, false] rfl rfl (by kernel_rfl) (fun _ _ _ h => h) (Or.inl ⟨by rfl, ?_⟩) ?_ ?_
    rotate_left
    · intro w'
      go_simp
      with_reducible rfl
    rotate_left
    · simp only [Act.put, List.setIfInBounds_toArray, List.set_cons_zero, List.set_cons_succ, i64_w, i32_w]
      rfl
    refine one_ (i := 5) (N := none) #[true, true, true, true, true, true] rfl rfl (by kernel_rfl) (by decide) (fun K hK => ?_)
    have hs14 : w12.cell? ⟨gb210101, 0, none⟩ = some (.int .i64 0) := (blk_cell BK210101.out 0).trans rfl
    have hfs14 := blk_frozen BK210101.out 0
    have hns14_1 := NB210107_210101.out
    have hms14_1 := NB210101_210107.out
    have hs15 : w12.cell? ⟨gb210101, 1, none⟩ = some (.int .i64 0) := (blk_cell BK210101.out 1).trans rfl
    have hfs15 := blk_frozen BK210101.out 1
    have hns15_1 := NB210107_210101.out
    have hms15_1 := NB210101_210107.out
    have hs16 : w12.cell? ⟨gb210101, 2, none⟩ = some (.int .i64 0) := (blk_cell BK210101.out 2).trans rfl
    have hfs16 := blk_frozen BK210101.out 2
    have hns16_1 := NB210107_210101.out
    have hms16_1 := NB210101_210107.out
    have hs17 : w12.cell? ⟨gb210101, 3, none⟩ = some (.int .i64 0) := (blk_cell BK210101.out 3).trans rfl
    have hfs17 := blk_frozen BK210101.out 3
    have hns17_1 := NB210107_210101.out
    have hms17_1 := NB210101_210107.out
    have hs18 : w12.cell? ⟨gb210101, 4, none⟩ = some (.int .i64 0) := (blk_cell BK210101.out 4).trans rfl
    have hfs18 := blk_frozen BK210101.out 4
    have hns18_1 := NB210107_210101.out
    have hms18_1 := NB210101_210107.out
    refine skip_ (w1 := ?_) (by rfl) rfl ?_ ?_
    rotate_left
    · go_simp
      rfl
    refine hK.out _ _ ⟨((cell_far (p := ⟨gb210101, _, none⟩) NB210107_210101.out _).trans (((cell_far (p := ⟨gb210101, _, none⟩) NB210107_210101.out _).trans (((cell_far (p := ⟨gb210101, _, none⟩) NB210107_210101.out _).trans (((cell_far (p := ⟨gb210101, _, none⟩) NB210107_210101.out _).trans (((cell_far (p := ⟨gb210101, _, none⟩) NB210107_210101.out _).trans (hHeld.1)))))))))), ((cell_far (p := ⟨gb210101, _, none⟩) NB210107_210101.out _).trans (((cell_far (p := ⟨gb210101, _, none⟩) NB210107_210101.out _).trans (((cell_far (p := ⟨gb210101, _, none⟩) NB210107_210101.out _).trans (((cell_far (p := ⟨gb210101, _, none⟩) NB210107_210101.out _).trans (((cell_far (p := ⟨gb210101, _, none⟩) NB210107_210101.out _).trans (hHeld.2.1)))))))))), ((cell_far (p := ⟨gb210101, _, none⟩) NB210107_210101.out _).trans (((cell_far (p := ⟨gb210101, _, none⟩) NB210107_210101.out _).trans (((cell_far (p := ⟨gb210101, _, none⟩) NB210107_210101.out _).trans (((cell_far (p := ⟨gb210101, _, none⟩) NB210107_210101.out _).trans (((cell_far (p := ⟨gb210101, _, none⟩) NB210107_210101.out _).trans (hHeld.2.2.1)))))))))), ((cell_far (p := ⟨gb210101, _, none⟩) NB210107_210101.out _).trans (((cell_far (p := ⟨gb210101, _, none⟩) NB210107_210101.out _).trans (((cell_far (p := ⟨gb210101, _, none⟩) NB210107_210101.out _).trans (((cell_far (p := ⟨gb210101, _, none⟩) NB210107_210101.out _).trans (((cell_far (p := ⟨gb210101, _, none⟩) NB210107_210101.out _).trans (hHeld.2.2.2.1)))))))))), ((cell_far (p := ⟨gb210101, _, none⟩) NB210107_210101.out _).trans (((cell_far (p := ⟨gb210101, _, none⟩) NB210107_210101.out _).trans (((cell_far (p := ⟨gb210101, _, none⟩) NB210107_210101.out _).trans (((cell_far (p := ⟨gb210101, _, none⟩) NB210107_210101.out _).trans (((cell_far (p := ⟨gb210101, _, none⟩) NB210107_210101.out _).trans (hHeld.2.2.2.2))))))))))⟩ (fun hHeld => ?_)
    clear hK K
    refine done_ (by kernel_rfl) ?_
    try go_wp2
    refine bodyPost_ret (results_tc rfl _ _ gb210101 46 #[.int .i64 t210102, .int .i64 t210103, .int .i64 t210104, .int .i64 t210105, .int .i64 t210106] (0, 0) _ rfl (by (with_reducible repeat (first | refine blk_drewN ?_ _ | refine blk_drew ?_ | refine blk_alloc ?_ _)); refine blk_put (cs := #[.int .i64 t210102, .int .i64 t210103, .int .i64 t210104, .int .i64 t210105, .int .i64 0]) ?_ 4 _ rfl; (with_reducible repeat (first | refine blk_drewN ?_ _ | refine blk_drew ?_ | refine blk_alloc ?_ _)); refine blk_put (cs := #[.int .i64 t210102, .int .i64 t210103, .int .i64 t210104, .int .i64 0, .int .i64 0]) ?_ 3 _ rfl; (with_reducible repeat (first | refine blk_drewN ?_ _ | refine blk_drew ?_ | refine blk_alloc ?_ _)); refine blk_put (cs := #[.int .i64 t210102, .int .i64 t210103, .int .i64 0, .int .i64 0, .int .i64 0]) ?_ 2 _ rfl; (with_reducible repeat (first | refine blk_drewN ?_ _ | refine blk_drew ?_ | refine blk_alloc ?_ _)); refine blk_put (cs := #[.int .i64 t210102, .int .i64 0, .int .i64 0, .int .i64 0, .int .i64 0]) ?_ 1 _ rfl; (with_reducible repeat (first | refine blk_drewN ?_ _ | refine blk_drew ?_ | refine blk_alloc ?_ _)); refine blk_put (cs := #[.int .i64 0, .int .i64 0, .int .i64 0, .int .i64 0, .int .i64 0]) ?_ 0 _ rfl; (with_reducible repeat (first | refine blk_drewN ?_ _ | refine blk_drew ?_ | refine blk_alloc ?_ _)); exact BK210101.out) Tryz.underlying46 rfl (by kernel_rfl)) rfl ?_
    exact ⟨by first | rfl | (simp [errW_none, errW_some] <;> rfl) | (simp [*, errW_none, errW_some] <;> rfl), by repeat (first | (with_reducible first | exact HB.out | apply below_alloc | apply pw_below_drewN | apply below_drew1 | refine below_set ?_ GE210101.out | refine below_set ?_ GE210107.out) | exact HB.out)⟩
  · rw [if_neg c3] at H
    have c3b0 : (t210102 == 0) = false := beq_eq_false_iff_ne.mpr c3
    have c3b1 : (t210102 != 0) = true := bne_iff_ne.mpr c3
    simp only [Option.some.injEq, Prod.mk.injEq] at H
    obtain ⟨rfl, rfl, rfl, rfl, rfl, rfl⟩ := H
    go_enter Tryz.func21, Tryz.ntmps21
    try go_wp2_with (first | ((with_reducible refine gate_dst (N := 3) rfl ?_); refine box_event ?hg (N := 3) ?hd (cs := #[.int .i64 0, .int .i64 0, .int .i64 0, .int .i64 0, .int .i64 0]) (t := 46) ?hr ?_; (case hd => rfl); (case hg => rfl); (case hr => first | (go_simp; done) | (go_simp; rfl)); intro gb210101 hg w19 hbox hb; have n0_ := Aside0.mk (below_step (by repeat (first | (with_reducible first | exact HB.out | apply below_alloc | apply pw_below_drewN | apply below_drew1) | exact HB.out)) hb); have n1_ := Aside0.mk (hbox); have n2_ := Aside0.mk ((by rw [hg]; exact (below_size (by repeat (first | (with_reducible first | exact HB.out | apply below_alloc | apply pw_below_drewN | apply below_drew1) | exact HB.out))) : w.heap.size ≤ gb210101)); have n3_ := Aside0.mk ((by rw [hg]; exact (below_size (by repeat (first | (with_reducible first | exact HB.out | apply below_alloc | apply pw_below_drewN | apply below_drew1) | exact HB.out))) : w.heap.size ≤ gb210101)); clear HB; have HB := n0_; have BK210101 := n1_; have GW210101 := n2_; have GE210101 := n3_; clear n0_ n1_ n2_ n3_; clear hb hbox hg) | ((with_reducible refine gate_callee (f := 58) rfl ?_); refine goesL_ (some 6) rfl rfl Tryz.func58 (by kernel_rfl) rfl #[.slice A0 l0.length c0] rfl (by (try simp only [List.map_toArray, List.map_cons, List.map_nil]); first | done | rfl | (simp only [List.length_drop, List.length_take]; rfl)) ?_; (with_reducible refine (larderref04_Wrong.calls k _ _ l0 t210102 t210103 t210104 t210105 t210106 _ ?side1 ?side2 A2.out).mono ?_); (case side1 => repeat (first | exact (Kd.C_below HR0.out HB.out) | (with_reducible refine Kd.C_alloc ?_ _) | (with_reducible refine Kd.C_drewN ?_ _) | (with_reducible refine Kd.C_drew ?_))); (case side2 => exact HC0.out); rintro e w20 ⟨rfl, hb⟩; refine ⟨_, rfl, ?_⟩; have n0_ := Aside0.mk (blk_below (g := gb210101) (o := .cells #[.int .i64 0, .int .i64 0, .int .i64 0, .int .i64 0, .int .i64 0] 46 (0, 0)) (by (with_reducible repeat (first | refine blk_drewN ?_ _ | refine blk_drew ?_ | refine blk_alloc ?_ _)); exact BK210101.out) hb); have n1_ := Aside0.mk (below_step (by repeat (first | (with_reducible first | exact HB.out | apply below_alloc | apply pw_below_drewN | apply below_drew1 | refine below_set ?_ GE210101.out) | exact HB.out)) hb); clear BK210101; clear HB; have BK210101 := n0_; have HB := n1_; clear n0_ n1_; (try clear hb); (try clear hb2); (try clear hk); (try clear hi)) | ((with_reducible refine gate_dst (N := 4) rfl ?_); refine box_event ?hg (N := 4) ?hd (cs := #[.int .i64 0, .int .i64 0, .int .i64 0, .int .i64 0, .int .i64 0]) (t := 46) ?hr ?_; (case hd => rfl); (case hg => rfl); (case hr => first | (go_simp; done) | (go_simp; rfl)); intro gb210107 hg w21 hbox hb; have n0_ := Aside0.mk (blk_below (g := gb210101) (o := .cells #[.int .i64 0, .int .i64 0, .int .i64 0, .int .i64 0, .int .i64 0] 46 (0, 0)) (by (with_reducible repeat (first | refine blk_drewN ?_ _ | refine blk_drew ?_ | refine blk_alloc ?_ _)); exact BK210101.out) hb); have n1_ := Aside0.mk (below_step (by repeat (first | (with_reducible first | exact HB.out | apply below_alloc | apply pw_below_drewN | apply below_drew1 | refine below_set ?_ GE210101.out) | exact HB.out)) hb); have n2_ := Aside0.mk (hbox); have n3_ := Aside0.mk ((by rw [hg]; exact (below_size (by repeat (first | (with_reducible first | exact HB.out | apply below_alloc | apply pw_below_drewN | apply below_drew1 | refine below_set ?_ GE210101.out) | exact HB.out))) : w.heap.size ≤ gb210107)); have n4_ := Aside0.mk ((by rw [hg]; exact (below_size (by repeat (first | (with_reducible first | exact HB.out | apply below_alloc | apply pw_below_drewN | apply below_drew1 | refine below_set ?_ GE210101.out) | exact HB.out))) : w.heap.size ≤ gb210107)); have n5_ := Aside0.mk ((by rw [hg]; exact Nat.ne_of_lt (blk_lt (g := gb210101) (o := .cells #[.int .i64 0, .int .i64 0, .int .i64 0, .int .i64 0, .int .i64 0] 46 (0, 0)) (by (with_reducible repeat (first | refine blk_drewN ?_ _ | refine blk_drew ?_ | refine blk_alloc ?_ _)); exact BK210101.out)) : gb210101 ≠ gb210107)); have n6_ := Aside0.mk ((by rw [hg]; exact Nat.ne_of_gt (blk_lt (g := gb210101) (o := .cells #[.int .i64 0, .int .i64 0, .int .i64 0, .int .i64 0, .int .i64 0] 46 (0, 0)) (by (with_reducible repeat (first | refine blk_drewN ?_ _ | refine blk_drew ?_ | refine blk_alloc ?_ _)); exact BK210101.out)) : gb210107 ≠ gb210101)); clear BK210101; clear HB; have BK210101 := n0_; have HB := n1_; have BK210107 := n2_; have GW210107 := n3_; have GE210107 := n4_; have NB210101_210107 := n5_; have NB210107_210101 := n6_; clear n0_ n1_ n2_ n3_ n4_ n5_ n6_; clear hb hbox hg; have hnb22 := NB210107_210101.out; have hnc22 := NB210101_210107.out; have hcz23_0 : w21.cell? ⟨gb210107, 0, none⟩ = some (.int .i64 0) := (blk_cell BK210107.out 0).trans rfl; have hcz23_1 : w21.cell? ⟨gb210107, 1, none⟩ = some (.int .i64 0) := (blk_cell BK210107.out 1).trans rfl; have hcz23_2 : w21.cell? ⟨gb210107, 2, none⟩ = some (.int .i64 0) := (blk_cell BK210107.out 2).trans rfl; have hcz23_3 : w21.cell? ⟨gb210107, 3, none⟩ = some (.int .i64 0) := (blk_cell BK210107.out 3).trans rfl; have hcz23_4 : w21.cell? ⟨gb210107, 4, none⟩ = some (.int .i64 0) := (blk_cell BK210107.out 4).trans rfl; have hfz23_0 := blk_frozen BK210107.out 0; have hfz23_1 := blk_frozen BK210107.out 1; have hfz23_2 := blk_frozen BK210107.out 2; have hfz23_3 := blk_frozen BK210107.out 3; have hfz23_4 := blk_frozen BK210107.out 4))
    have n0_ : Aside0 ((((((w21.setCell ⟨gb210107, 0, none⟩ (.int .i64 t210102)).setCell ⟨gb210107, 1, none⟩ (.int .i64 t210103)).setCell ⟨gb210107, 2, none⟩ (.int .i64 t210104)).setCell ⟨gb210107, 3, none⟩ (.int .i64 t210105)).setCell ⟨gb210107, 4, none⟩ (.int .i64 t210106)).heap[gb210101]? = some (.cells #[.int .i64 0, .int .i64 0, .int .i64 0, .int .i64 0, .int .i64 0] 46 (0, 0))) := ⟨by (with_reducible repeat (first | refine blk_drewN ?_ _ | refine blk_drew ?_ | refine blk_alloc ?_ _)); refine blk_far ?_ NB210101_210107.out _; (with_reducible repeat (first | refine blk_drewN ?_ _ | refine blk_drew ?_ | refine blk_alloc ?_ _)); refine blk_far ?_ NB210101_210107.out _; (with_reducible repeat (first | refine blk_drewN ?_ _ | refine blk_drew ?_ | refine blk_alloc ?_ _)); refine blk_far ?_ NB210101_210107.out _; (with_reducible repeat (first | refine blk_drewN ?_ _ | refine blk_drew ?_ | refine blk_alloc ?_ _)); refine blk_far ?_ NB210101_210107.out _; (with_reducible repeat (first | refine blk_drewN ?_ _ | refine blk_drew ?_ | refine blk_alloc ?_ _)); refine blk_far ?_ NB210101_210107.out _; (with_reducible repeat (first | refine blk_drewN ?_ _ | refine blk_drew ?_ | refine blk_alloc ?_ _)); exact BK210101.out⟩
    have n1_ : Aside0 ((((((w21.setCell ⟨gb210107, 0, none⟩ (.int .i64 t210102)).setCell ⟨gb210107, 1, none⟩ (.int .i64 t210103)).setCell ⟨gb210107, 2, none⟩ (.int .i64 t210104)).setCell ⟨gb210107, 3, none⟩ (.int .i64 t210105)).setCell ⟨gb210107, 4, none⟩ (.int .i64 t210106)).heap[gb210107]? = some (.cells #[.int .i64 t210102, .int .i64 t210103, .int .i64 t210104, .int .i64 t210105, .int .i64 t210106] 46 (0, 0))) := ⟨by (with_reducible repeat (first | refine blk_drewN ?_ _ | refine blk_drew ?_ | refine blk_alloc ?_ _)); refine blk_put (cs := #[.int .i64 t210102, .int .i64 t210103, .int .i64 t210104, .int .i64 t210105, .int .i64 0]) ?_ 4 _ rfl; (with_reducible repeat (first | refine blk_drewN ?_ _ | refine blk_drew ?_ | refine blk_alloc ?_ _)); refine blk_put (cs := #[.int .i64 t210102, .int .i64 t210103, .int .i64 t210104, .int .i64 0, .int .i64 0]) ?_ 3 _ rfl; (with_reducible repeat (first | refine blk_drewN ?_ _ | refine blk_drew ?_ | refine blk_alloc ?_ _)); refine blk_put (cs := #[.int .i64 t210102, .int .i64 t210103, .int .i64 0, .int .i64 0, .int .i64 0]) ?_ 2 _ rfl; (with_reducible repeat (first | refine blk_drewN ?_ _ | refine blk_drew ?_ | refine blk_alloc ?_ _)); refine blk_put (cs := #[.int .i64 t210102, .int .i64 0, .int .i64 0, .int .i64 0, .int .i64 0]) ?_ 1 _ rfl; (with_reducible repeat (first | refine blk_drewN ?_ _ | refine blk_drew ?_ | refine blk_alloc ?_ _)); refine blk_put (cs := #[.int .i64 0, .int .i64 0, .int .i64 0, .int .i64 0, .int .i64 0]) ?_ 0 _ rfl; (with_reducible repeat (first | refine blk_drewN ?_ _ | refine blk_drew ?_ | refine blk_alloc ?_ _)); exact BK210107.out⟩
    have n2_ : Aside0 (Below w.heap.size w (((((w21.setCell ⟨gb210107, 0, none⟩ (.int .i64 t210102)).setCell ⟨gb210107, 1, none⟩ (.int .i64 t210103)).setCell ⟨gb210107, 2, none⟩ (.int .i64 t210104)).setCell ⟨gb210107, 3, none⟩ (.int .i64 t210105)).setCell ⟨gb210107, 4, none⟩ (.int .i64 t210106))) := ⟨by repeat (first | (with_reducible first | exact HB.out | apply below_alloc | apply pw_below_drewN | apply below_drew1 | refine below_set ?_ GE210101.out | refine below_set ?_ GE210107.out) | exact HB.out)⟩
    (try clear BK210101)
    (try clear BK210107)
    (try clear HB)
    generalize (((((w21.setCell ⟨gb210107, 0, none⟩ (.int .i64 t210102)).setCell ⟨gb210107, 1, none⟩ (.int .i64 t210103)).setCell ⟨gb210107, 2, none⟩ (.int .i64 t210104)).setCell ⟨gb210107, 3, none⟩ (.int .i64 t210105)).setCell ⟨gb210107, 4, none⟩ (.int .i64 t210106)) = w24 at n0_ n1_ n2_ ⊢
    have BK210101 := n0_
    have BK210107 := n1_
    have HB := n2_
    clear n0_ n1_ n2_
    have n0_ := Aside0.mk (blk_drew BK210101.out)
    have n1_ := Aside0.mk (blk_drew BK210107.out)
    have n2_ := Aside0.mk (below_drew1 HB.out)
    clear BK210101
    clear BK210107
    clear HB
    have BK210101 := n0_
    have BK210107 := n1_
    have HB := n2_
    clear n0_ n1_ n2_
    refine start_ (n := 3) (S := fun w' => w'.cell? ⟨gb210107, 0, none⟩ = some (.int .i64 t210102) ∧ w'.cell? ⟨gb210107, 1, none⟩ = some (.int .i64 t210103) ∧ w'.cell? ⟨gb210107, 2, none⟩ = some (.int .i64 t210104) ∧ w'.cell? ⟨gb210107, 3, none⟩ = some (.int .i64 t210105) ∧ w'.cell? ⟨gb210107, 4, none⟩ = some (.int .i64 t210106)) (ds := []) #[false, false, false] (by kernel_rfl) rfl rfl ⟨(blk_cell BK210107.out 0).trans rfl, (blk_cell BK210107.out 1).trans rfl, (blk_cell BK210107.out 2).trans rfl, (blk_cell BK210107.out 3).trans rfl, (blk_cell BK210107.out 4).trans rfl⟩ (fun hHeld => ?_)
    generalize w24.drew = w25 at BK210101 BK210107 HB hHeld ⊢
    refine pure_ (i := 1) (N := some 2) (v := ?_) (a' := ?_) #[false, true, false] rfl rfl (by kernel_rfl) (fun _ _ _ h => h) (Or.inl ⟨by rfl, ?_⟩) ?_ ?_
    rotate_left
    · intro w'
      go_simp
      with_reducible rfl
    rotate_left
    · simp only [Act.put, List.setIfInBounds_toArray, List.set_cons_zero, List.set_cons_succ, i64_w, i32_w]
      rfl
    refine take_ (i := 0) (N := some 10) (v := ?_) (a' := ?_) #[true, true, false] rfl rfl (by kernel_rfl) (fun _ _ _ h => h) (Or.inl ⟨by rfl, ?_⟩) hHeld ?_ ?_
    rotate_left
    · rintro w' ⟨s0, s1, s2, s3, s4⟩
      go_simp
      with_reducible rfl
    rotate_left
    · simp only [Act.put, List.setIfInBounds_toArray, List.set_cons_zero, List.set_cons_succ, i64_w, i32_w]
      rfl
    refine one_ (i := 2) (N := none) #[true, true, true] rfl rfl (by kernel_rfl) (by decide) (fun K hK => ?_)
    have hs26 : w25.cell? ⟨gb210101, 0, none⟩ = some (.int .i64 0) := (blk_cell BK210101.out 0).trans rfl
    have hfs26 := blk_frozen BK210101.out 0
    have hns26_1 := NB210107_210101.out
    have hms26_1 := NB210101_210107.out
    have hs27 : w25.cell? ⟨gb210101, 1, none⟩ = some (.int .i64 0) := (blk_cell BK210101.out 1).trans rfl
    have hfs27 := blk_frozen BK210101.out 1
    have hns27_1 := NB210107_210101.out
    have hms27_1 := NB210101_210107.out
    have hs28 : w25.cell? ⟨gb210101, 2, none⟩ = some (.int .i64 0) := (blk_cell BK210101.out 2).trans rfl
    have hfs28 := blk_frozen BK210101.out 2
    have hns28_1 := NB210107_210101.out
    have hms28_1 := NB210101_210107.out
    have hs29 : w25.cell? ⟨gb210101, 3, none⟩ = some (.int .i64 0) := (blk_cell BK210101.out 3).trans rfl
    have hfs29 := blk_frozen BK210101.out 3
    have hns29_1 := NB210107_210101.out
    have hms29_1 := NB210101_210107.out
    have hs30 : w25.cell? ⟨gb210101, 4, none⟩ = some (.int .i64 0) := (blk_cell BK210101.out 4).trans rfl
    have hfs30 := blk_frozen BK210101.out 4
    have hns30_1 := NB210107_210101.out
    have hms30_1 := NB210101_210107.out
    refine skip_ (w1 := ?_) (by rfl) rfl ?_ ?_
    rotate_left
    · go_simp
      rfl
    refine hK.out _ _ ⟨((cell_far (p := ⟨gb210101, _, none⟩) NB210107_210101.out _).trans (((cell_far (p := ⟨gb210101, _, none⟩) NB210107_210101.out _).trans (((cell_far (p := ⟨gb210101, _, none⟩) NB210107_210101.out _).trans (((cell_far (p := ⟨gb210101, _, none⟩) NB210107_210101.out _).trans (((cell_far (p := ⟨gb210101, _, none⟩) NB210107_210101.out _).trans (hHeld.1)))))))))), ((cell_far (p := ⟨gb210101, _, none⟩) NB210107_210101.out _).trans (((cell_far (p := ⟨gb210101, _, none⟩) NB210107_210101.out _).trans (((cell_far (p := ⟨gb210101, _, none⟩) NB210107_210101.out _).trans (((cell_far (p := ⟨gb210101, _, none⟩) NB210107_210101.out _).trans (((cell_far (p := ⟨gb210101, _, none⟩) NB210107_210101.out _).trans (hHeld.2.1)))))))))), ((cell_far (p := ⟨gb210101, _, none⟩) NB210107_210101.out _).trans (((cell_far (p := ⟨gb210101, _, none⟩) NB210107_210101.out _).trans (((cell_far (p := ⟨gb210101, _, none⟩) NB210107_210101.out _).trans (((cell_far (p := ⟨gb210101, _, none⟩) NB210107_210101.out _).trans (((cell_far (p := ⟨gb210101, _, none⟩) NB210107_210101.out _).trans (hHeld.2.2.1)))))))))), ((cell_far (p := ⟨gb210101, _, none⟩) NB210107_210101.out _).trans (((cell_far (p := ⟨gb210101, _, none⟩) NB210107_210101.out _).trans (((cell_far (p := ⟨gb210101, _, none⟩) NB210107_210101.out _).trans (((cell_far (p := ⟨gb210101, _, none⟩) NB210107_210101.out _).trans (((cell_far (p := ⟨gb210101, _, none⟩) NB210107_210101.out _).trans (hHeld.2.2.2.1)))))))))), ((cell_far (p := ⟨gb210101, _, none⟩) NB210107_210101.out _).trans (((cell_far (p := ⟨gb210101, _, none⟩) NB210107_210101.out _).trans (((cell_far (p := ⟨gb210101, _, none⟩) NB210107_210101.out _).trans (((cell_far (p := ⟨gb210101, _, none⟩) NB210107_210101.out _).trans (((cell_far (p := ⟨gb210101, _, none⟩) NB210107_210101.out _).trans (hHeld.2.2.2.2))))))))))⟩ (fun hHeld => ?_)
    clear hK K
    refine done_ (by kernel_rfl) ?_
    try go_wp2
    refine bodyPost_ret (results_tc rfl _ _ gb210101 46 #[.int .i64 t210102, .int .i64 t210103, .int .i64 t210104, .int .i64 t210105, .int .i64 t210106] (0, 0) _ rfl (by (with_reducible repeat (first | refine blk_drewN ?_ _ | refine blk_drew ?_ | refine blk_alloc ?_ _)); refine blk_put (cs := #[.int .i64 t210102, .int .i64 t210103, .int .i64 t210104, .int .i64 t210105, .int .i64 0]) ?_ 4 _ rfl; (with_reducible repeat (first | refine blk_drewN ?_ _ | refine blk_drew ?_ | refine blk_alloc ?_ _)); refine blk_put (cs := #[.int .i64 t210102, .int .i64 t210103, .int .i64 t210104, .int .i64 0, .int .i64 0]) ?_ 3 _ rfl; (with_reducible repeat (first | refine blk_drewN ?_ _ | refine blk_drew ?_ | refine blk_alloc ?_ _)); refine blk_put (cs := #[.int .i64 t210102, .int .i64 t210103, .int .i64 0, .int .i64 0, .int .i64 0]) ?_ 2 _ rfl; (with_reducible repeat (first | refine blk_drewN ?_ _ | refine blk_drew ?_ | refine blk_alloc ?_ _)); refine blk_put (cs := #[.int .i64 t210102, .int .i64 0, .int .i64 0, .int .i64 0, .int .i64 0]) ?_ 1 _ rfl; (with_reducible repeat (first | refine blk_drewN ?_ _ | refine blk_drew ?_ | refine blk_alloc ?_ _)); refine blk_put (cs := #[.int .i64 0, .int .i64 0, .int .i64 0, .int .i64 0, .int .i64 0]) ?_ 0 _ rfl; (with_reducible repeat (first | refine blk_drewN ?_ _ | refine blk_drew ?_ | refine blk_alloc ?_ _)); exact BK210101.out) Tryz.underlying46 rfl (by kernel_rfl)) rfl ?_
    exact ⟨by first | rfl | (simp [errW_none, errW_some] <;> rfl) | (simp [*, errW_none, errW_some] <;> rfl), by repeat (first | (with_reducible first | exact HB.out | apply below_alloc | apply pw_below_drewN | apply below_drew1 | refine below_set ?_ GE210101.out | refine below_set ?_ GE210107.out) | exact HB.out)⟩

end Go.Proofs.YtappphffbnkloaaGreatDoor.GS
