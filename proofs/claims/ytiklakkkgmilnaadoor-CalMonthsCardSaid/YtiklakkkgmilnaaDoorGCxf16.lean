-- written by a program (gp.py over the kit's print) for this claim
import Derived.Test.YtiklakkkgmilnaaDoorGCx0
import Derived.Test.YtiklakkkgmilnaaDoorGCxf35
import Derived.Test.YtiklakkkgmilnaaDoorCalSpanX
namespace Go.Proofs.YtiklakkkgmilnaaDoor.GC
open Go.RowKit Go.Proofs.YtiklakkkgmilnaaDoorW.PrintWords Go.Proofs.YtiklakkkgmilnaaDoorW.PrintLast Go.Proofs.YtiklakkkgmilnaaDoor.Ext Go.Proofs.YtiklakkkgmilnaaDoor.PCal
attribute [local go_sem] max2_int min2_int max_two min_two   -- for this text alone
set_option linter.unusedVariables false
set_option linter.unusedSimpArgs false

/-! ### cal_AddSpan: function 16 -/
mutual
def cal_AddSpan.j0 : Nat → Int → Bool → Bool → Int → Int → Int → Int → Int → Int → Int → Option (Int × Int)
  | 0, _, _, _, _, _, _, _, _, _, _ => none
  | k + 1, x0, x2, x19, x160102000, x160102001, x160102002, x160102003, x160102004, x160102005, x160102006 => if x19 = true then (some (0, 35)) else ((cal_PrintSpan.f x160102000 x160102001 x160102002 x160102003 x160102004 x160102005 x160102006).bind fun bt160102 => (if bt160102.2 = 0 then (if x2 = true then (cal_AddSpan.j1 k x0 (-1) x160102000 x160102001 x160102002 x160102003 x160102004 x160102005 x160102006) else (cal_AddSpan.j1 k x0 1 x160102000 x160102001 x160102002 x160102003 x160102004 x160102005 x160102006)) else (some (0, bt160102.2))))
def cal_AddSpan.j1 : Nat → Int → Int → Int → Int → Int → Int → Int → Int → Int → Option (Int × Int)
  | 0, _, _, _, _, _, _, _, _, _ => none
  | k + 1, x0, x10, x160102000, x160102001, x160102002, x160102003, x160102004, x160102005, x160102006 => (cal_date.f k (wrap64 (Int.tdiv x0 86400))).bind fun bt160104 => (if (wrap64 ((wrap64 ((wrap64 ((wrap64 (12 * bt160104.1)) + bt160104.2.1)) - 1)) + (wrap64 (x10 * (wrap64 ((wrap64 (12 * x160102000)) + x160102001)))))) < 0 then (cal_AddSpan.j2 k x0 x10 (wrap64 ((wrap64 ((wrap64 ((wrap64 (12 * bt160104.1)) + bt160104.2.1)) - 1)) + (wrap64 (x10 * (wrap64 ((wrap64 (12 * x160102000)) + x160102001)))))) true x160102000 x160102001 x160102002 x160102003 x160102004 x160102005 x160102006 bt160104.1 bt160104.2.1 bt160104.2.2) else (cal_AddSpan.j2 k x0 x10 (wrap64 ((wrap64 ((wrap64 ((wrap64 (12 * bt160104.1)) + bt160104.2.1)) - 1)) + (wrap64 (x10 * (wrap64 ((wrap64 (12 * x160102000)) + x160102001)))))) (decide ((wrap64 (Int.tdiv (wrap64 ((wrap64 ((wrap64 ((wrap64 (12 * bt160104.1)) + bt160104.2.1)) - 1)) + (wrap64 (x10 * (wrap64 ((wrap64 (12 * x160102000)) + x160102001)))))) 12)) > 9999)) x160102000 x160102001 x160102002 x160102003 x160102004 x160102005 x160102006 bt160104.1 bt160104.2.1 bt160104.2.2))
def cal_AddSpan.j2 : Nat → Int → Int → Int → Bool → Int → Int → Int → Int → Int → Int → Int → Int → Int → Int → Option (Int × Int)
  | 0, _, _, _, _, _, _, _, _, _, _, _, _, _, _ => none
  | k + 1, x0, x10, x12, x54, x160102000, x160102001, x160102002, x160102003, x160102004, x160102005, x160102006, x160108000, x160108001, x160108002 => if x54 = true then (some (0, 35)) else ((cal_daysOf.f (wrap64 (Int.tdiv x12 12)) (wrap64 ((Int.tmod x12 12) + 1))).bind fun t160108 => ((cal_number.f (wrap64 (Int.tdiv x12 12)) (wrap64 ((Int.tmod x12 12) + 1)) (mn x160108002 t160108)).bind fun t160109 => (if (wrap64 ((wrap64 ((wrap64 (t160109 * 86400)) + (Int.tmod x0 86400))) + (wrap64 (x10 * (wrap64 ((wrap64 ((wrap64 ((wrap64 ((wrap64 ((wrap64 (7 * x160102002)) + x160102003)) * 86400)) + (wrap64 (3600 * x160102004)))) + (wrap64 (60 * x160102005)))) + x160102006)))))) < 0 then (some (0, 35)) else (if (wrap64 ((wrap64 ((wrap64 (t160109 * 86400)) + (Int.tmod x0 86400))) + (wrap64 (x10 * (wrap64 ((wrap64 ((wrap64 ((wrap64 ((wrap64 ((wrap64 (7 * x160102002)) + x160102003)) * 86400)) + (wrap64 (3600 * x160102004)))) + (wrap64 (60 * x160102005)))) + x160102006)))))) > 315569519999 then (some (0, 35)) else (some (wrap64 ((wrap64 ((wrap64 (t160109 * 86400)) + (Int.tmod x0 86400))) + (wrap64 (x10 * (wrap64 ((wrap64 ((wrap64 ((wrap64 ((wrap64 ((wrap64 (7 * x160102002)) + x160102003)) * 86400)) + (wrap64 (3600 * x160102004)))) + (wrap64 (60 * x160102005)))) + x160102006))))), 0))))))
end
def cal_AddSpan.f (k : Nat) (a0 : Int) (a1_0 : Int) (a1_1 : Int) (a1_2 : Int) (a1_3 : Int) (a1_4 : Int) (a1_5 : Int) (a1_6 : Int) (a2 : Bool) : Option (Int × Int) := if a0 < 0 then (cal_AddSpan.j0 k a0 a2 true a1_0 a1_1 a1_2 a1_3 a1_4 a1_5 a1_6) else (cal_AddSpan.j0 k a0 a2 (decide (a0 > 315569519999)) a1_0 a1_1 a1_2 a1_3 a1_4 a1_5 a1_6)
theorem cal_AddSpan.mono_l : ∀ k, (∀ y0 y1 y2 y3 y4 y5 y6 y7 y8 y9, LeO (cal_AddSpan.j0 k y0 y1 y2 y3 y4 y5 y6 y7 y8 y9) (cal_AddSpan.j0 (k + 1) y0 y1 y2 y3 y4 y5 y6 y7 y8 y9)) ∧ (∀ y0 y1 y2 y3 y4 y5 y6 y7 y8, LeO (cal_AddSpan.j1 k y0 y1 y2 y3 y4 y5 y6 y7 y8) (cal_AddSpan.j1 (k + 1) y0 y1 y2 y3 y4 y5 y6 y7 y8)) ∧ (∀ y0 y1 y2 y3 y4 y5 y6 y7 y8 y9 y10 y11 y12 y13, LeO (cal_AddSpan.j2 k y0 y1 y2 y3 y4 y5 y6 y7 y8 y9 y10 y11 y12 y13) (cal_AddSpan.j2 (k + 1) y0 y1 y2 y3 y4 y5 y6 y7 y8 y9 y10 y11 y12 y13))
  | 0 => ⟨fun _ _ _ _ _ _ _ _ _ _ r h => by simp [cal_AddSpan.j0] at h, fun _ _ _ _ _ _ _ _ _ r h => by simp [cal_AddSpan.j1] at h, fun _ _ _ _ _ _ _ _ _ _ _ _ _ _ r h => by simp [cal_AddSpan.j2] at h⟩
  | k + 1 => by
    obtain ⟨ih0, ih1, ih2⟩ := cal_AddSpan.mono_l k
    refine ⟨?_, ?_, ?_⟩
    · intro y0 y1 y2 y3 y4 y5 y6 y7 y8 y9
      unfold cal_AddSpan.j0
      repeat' first
      | (with_reducible exact ih0 _ _ _ _ _ _ _ _ _ _)
      | (with_reducible exact ih1 _ _ _ _ _ _ _ _ _)
      | (with_reducible exact ih2 _ _ _ _ _ _ _ _ _ _ _ _ _ _)
      | (with_reducible exact cal_date.mono _ _)
      | (with_reducible exact LeO.refl _)
      | (with_reducible exact LeO.none _)
      | (with_reducible refine LeO.ite ?_ ?_)
      | (with_reducible refine LeO.bind ?_ (fun _ => ?_))
      | exact ih0 _ _ _ _ _ _ _ _ _ _
      | exact ih1 _ _ _ _ _ _ _ _ _
      | exact ih2 _ _ _ _ _ _ _ _ _ _ _ _ _ _
      | exact cal_date.mono _ _
      | exact LeO.none _
      | refine LeO.ite ?_ ?_
      | refine LeO.bind ?_ (fun _ => ?_)
    · intro y0 y1 y2 y3 y4 y5 y6 y7 y8
      unfold cal_AddSpan.j1
      repeat' first
      | (with_reducible exact ih0 _ _ _ _ _ _ _ _ _ _)
      | (with_reducible exact ih1 _ _ _ _ _ _ _ _ _)
      | (with_reducible exact ih2 _ _ _ _ _ _ _ _ _ _ _ _ _ _)
      | (with_reducible exact cal_date.mono _ _)
      | (with_reducible exact LeO.refl _)
      | (with_reducible exact LeO.none _)
      | (with_reducible refine LeO.ite ?_ ?_)
      | (with_reducible refine LeO.bind ?_ (fun _ => ?_))
      | exact ih0 _ _ _ _ _ _ _ _ _ _
      | exact ih1 _ _ _ _ _ _ _ _ _
      | exact ih2 _ _ _ _ _ _ _ _ _ _ _ _ _ _
      | exact cal_date.mono _ _
      | exact LeO.none _
      | refine LeO.ite ?_ ?_
      | refine LeO.bind ?_ (fun _ => ?_)
    · intro y0 y1 y2 y3 y4 y5 y6 y7 y8 y9 y10 y11 y12 y13
      unfold cal_AddSpan.j2
      repeat' first
      | (with_reducible exact ih0 _ _ _ _ _ _ _ _ _ _)
      | (with_reducible exact ih1 _ _ _ _ _ _ _ _ _)
      | (with_reducible exact ih2 _ _ _ _ _ _ _ _ _ _ _ _ _ _)
      | (with_reducible exact cal_date.mono _ _)
      | (with_reducible exact LeO.refl _)
      | (with_reducible exact LeO.none _)
      | (with_reducible refine LeO.ite ?_ ?_)
      | (with_reducible refine LeO.bind ?_ (fun _ => ?_))
      | exact ih0 _ _ _ _ _ _ _ _ _ _
      | exact ih1 _ _ _ _ _ _ _ _ _
      | exact ih2 _ _ _ _ _ _ _ _ _ _ _ _ _ _
      | exact cal_date.mono _ _
      | exact LeO.none _
      | refine LeO.ite ?_ ?_
      | refine LeO.bind ?_ (fun _ => ?_)
theorem cal_AddSpan.mono : ∀ a0 a1 a2 a3 a4 a5 a6 a7 a8 k, LeO (cal_AddSpan.f k a0 a1 a2 a3 a4 a5 a6 a7 a8) (cal_AddSpan.f (k + 1) a0 a1 a2 a3 a4 a5 a6 a7 a8) := by
  intro a0 a1 a2 a3 a4 a5 a6 a7 a8 k
  obtain ⟨ih0, ih1, ih2⟩ := cal_AddSpan.mono_l k
  unfold cal_AddSpan.f
  repeat' first
      | (with_reducible exact ih0 _ _ _ _ _ _ _ _ _ _)
      | (with_reducible exact ih1 _ _ _ _ _ _ _ _ _)
      | (with_reducible exact ih2 _ _ _ _ _ _ _ _ _ _ _ _ _ _)
      | (with_reducible exact cal_date.mono _ _)
      | (with_reducible exact LeO.refl _)
      | (with_reducible exact LeO.none _)
      | (with_reducible refine LeO.ite ?_ ?_)
      | (with_reducible refine LeO.bind ?_ (fun _ => ?_))
      | exact ih0 _ _ _ _ _ _ _ _ _ _
      | exact ih1 _ _ _ _ _ _ _ _ _
      | exact ih2 _ _ _ _ _ _ _ _ _ _ _ _ _ _
      | exact cal_date.mono _ _
      | exact LeO.none _
      | refine LeO.ite ?_ ?_
      | refine LeO.bind ?_ (fun _ => ?_)
def cal_AddSpan.T14 : Bool × List (List Nat × List Nat) := (true, [([], []), ([0], [0]), ([], []), ([2], [2]), ([], []), ([4], [4]), ([3, 5], [3, 5]), ([1, 6], [1, 6]), ([0, 1, 2, 3, 4, 5, 6, 7], []), ([8, 7, 6, 0, 1, 2, 3, 4, 5, 6, 7], [7, 8])])
def cal_AddSpan.B14 : List Nat := [0, 1, 0, 4, 0, 16, 60, 127, 255, 511]
theorem cal_AddSpan.tab14 : rtab .any (opsOf Tryd.f16 14) = cal_AddSpan.T14 := by kernel_rfl
theorem cal_AddSpan.bits14 : waitsOk cal_AddSpan.T14.2 cal_AddSpan.B14 = true := by kernel_rfl
set_option maxHeartbeats 8000000 in
set_option maxRecDepth 100000 in
theorem cal_AddSpan.calls (k : Nat) (a0 : Int) (a1_0 : Int) (a1_1 : Int) (a1_2 : Int) (a1_3 : Int) (a1_4 : Int) (a1_5 : Int) (a1_6 : Int) (a2 : Bool) (r1 : Int) (r2 : Int) (w : World) (hG : GlobOk w) (h : cal_AddSpan.f k a0 a1_0 a1_1 a1_2 a1_3 a1_4 a1_5 a1_6 a2 = some (r1, r2)) :
    Calls Tryd.prog 16 #[.int .i64 a0, .agg #[.int .i64 a1_0, .int .i64 a1_1, .int .i64 a1_2, .int .i64 a1_3, .int .i64 a1_4, .int .i64 a1_5, .int .i64 a1_6], .bool a2] w fun e w' => e = .returned (.tuple #[.int .i64 r1, .int .i64 r2]) ∧ Below w.heap.size w w' := by
  have HG := Aside0.mk hG
  clear hG
  have hu30 := Tryd.underlying30
  have hu23 := Tryd.underlying23
  have HB := Aside0.mk (Below.refl w.heap.size w)
  have H : (if a0 < 0 then (cal_AddSpan.j0 k a0 a2 true a1_0 a1_1 a1_2 a1_3 a1_4 a1_5 a1_6) else (cal_AddSpan.j0 k a0 a2 (decide (a0 > 315569519999)) a1_0 a1_1 a1_2 a1_3 a1_4 a1_5 a1_6)) = some (r1, r2) := h
  clear h
  have HC4 := Aside0.mk H
  clear H
  go_enter Tryd.func16, Tryd.ntmps16
  go_upto_region 1 with (first | ((with_reducible refine gate_dst (N := 4) rfl ?_); refine box_event ?hg (N := 4) ?hd (cs := #[.int .i64 a1_0, .int .i64 a1_1, .int .i64 a1_2, .int .i64 a1_3, .int .i64 a1_4, .int .i64 a1_5, .int .i64 a1_6]) (t := 30) ?hr ?_; (case hd => rfl); (case hg => rfl); (case hr => first | (go_simp; done) | (go_simp; rfl)); intro gb160101 hg w5 hbox hb; have n0_ := Aside0.mk (below_step (by repeat (first | (with_reducible first | exact HB.out | apply below_alloc | apply pw_below_drewN | apply below_drew1) | exact HB.out)) hb); have n1_ := Aside0.mk (hbox); have n2_ := Aside0.mk ((by rw [hg]; exact (below_size (by repeat (first | (with_reducible first | exact HB.out | apply below_alloc | apply pw_below_drewN | apply below_drew1) | exact HB.out))) : w.heap.size ≤ gb160101)); have n3_ := Aside0.mk ((by rw [hg]; exact (below_size (by repeat (first | (with_reducible first | exact HB.out | apply below_alloc | apply pw_below_drewN | apply below_drew1) | exact HB.out))) : w.heap.size ≤ gb160101)); clear HB; have HB := n0_; have BK160101 := n1_; have GW160101 := n2_; have GE160101 := n3_; clear n0_ n1_ n2_ n3_; clear hb hbox hg))
  (try simp only [Act.put, List.setIfInBounds_toArray, List.set_cons_zero, List.set_cons_succ])
  go_cut [19] (fun v19 wc => ∃ (kq : Nat) (x19_3 : Bool), v19 = .bool x19_3 ∧ Aside0 (cal_AddSpan.j0 kq a0 a2 x19_3 a1_0 a1_1 a1_2 a1_3 a1_4 a1_5 a1_6 = some (r1, r2)) ∧ Aside0 (kq ≤ k) ∧ Aside0 (wc.heap[gb160101]? = some (.cells #[.int .i64 a1_0, .int .i64 a1_1, .int .i64 a1_2, .int .i64 a1_3, .int .i64 a1_4, .int .i64 a1_5, .int .i64 a1_6] 30 (0, 0))) ∧ Aside0 (Below w.heap.size w wc))
  case first =>
    have H := HC4.out
    clear HC4
    by_cases c6 : a0 < 0
    · rw [if_pos c6] at H
      have c6b0 : decide (a0 < 0) = true := decide_eq_true c6
      clear c6
      (first | rw [c6b0] | (simp only [i64_w, i32_w]; rw [c6b0]) | skip)
      have H' := Aside0.mk H
      clear H
      go_wp2
      go_meet
      case rel => exact ⟨_, (true), (by first | rfl | (simp; done) | (simp [*]; done)), H', ⟨by first | omega | exact Nat.le_refl _⟩, ⟨by (with_reducible repeat (first | refine blk_drewN ?_ _ | refine blk_drew ?_ | refine blk_alloc ?_ _)); exact BK160101.out⟩, ⟨by repeat (first | (with_reducible first | exact HB.out | apply below_alloc | apply pw_below_drewN | apply below_drew1 | refine below_set ?_ GE160101.out) | exact HB.out)⟩⟩
    · rw [if_neg c6] at H
      have c6b0 : decide (a0 < 0) = false := decide_eq_false c6
      clear c6
      (first | rw [c6b0] | (simp only [i64_w, i32_w]; rw [c6b0]) | skip)
      have H' := Aside0.mk H
      clear H
      go_wp2
      go_meet
      case rel => exact ⟨_, (decide (a0 > 315569519999)), (by first | rfl | (simp; done) | (simp [*]; done)), H', ⟨by first | omega | exact Nat.le_refl _⟩, ⟨by (with_reducible repeat (first | refine blk_drewN ?_ _ | refine blk_drew ?_ | refine blk_alloc ?_ _)); exact BK160101.out⟩, ⟨by repeat (first | (with_reducible first | exact HB.out | apply below_alloc | apply pw_below_drewN | apply below_drew1 | refine below_set ?_ GE160101.out) | exact HB.out)⟩⟩
  case rest =>
    clear HC4
    try clear c1
    try clear p2
    try clear c6
    try clear c6b0
    obtain ⟨kq, x19_3, rfl, HA, HJ3, BK160101, HB⟩ := hcut
    cases kq with
    | zero => exact absurd HA.out (by simp [cal_AddSpan.j0])
    | succ kj3 =>
      have H := HA.out
      clear HA
      simp only [cal_AddSpan.j0] at H
      by_cases c7 : x19_3 = true
      · subst c7
        have H1 : (some (0, 35)) = some (r1, r2) := by rw [if_pos rfl] at H; exact H
        clear H
        have H := H1
        clear H1
        simp only [Option.some.injEq, Prod.mk.injEq] at H
        obtain ⟨rfl, rfl⟩ := H
        go_wp2
        go_ret2
        exact ⟨by first | rfl | (simp [errW_none, errW_some] <;> rfl) | (simp [*, errW_none, errW_some] <;> rfl), by repeat (first | (with_reducible first | exact HB.out | apply below_alloc | apply pw_below_drewN | apply below_drew1 | refine below_set ?_ GE160101.out) | exact HB.out)⟩
      · replace c7 := Bool.eq_false_iff.mpr c7
        subst c7
        have H1 : ((cal_PrintSpan.f a1_0 a1_1 a1_2 a1_3 a1_4 a1_5 a1_6).bind fun bt160102 => (if bt160102.2 = 0 then (if a2 = true then (cal_AddSpan.j1 kj3 a0 (-1) a1_0 a1_1 a1_2 a1_3 a1_4 a1_5 a1_6) else (cal_AddSpan.j1 kj3 a0 1 a1_0 a1_1 a1_2 a1_3 a1_4 a1_5 a1_6)) else (some (0, bt160102.2)))) = some (r1, r2) := by rw [if_neg (show ¬ (false = true) by decide)] at H; exact H
        clear H
        have H := H1
        clear H1
        replace H := Option.bind_eq_some_iff.mp H
        obtain ⟨⟨t160102, t160103⟩, A80, H⟩ := H
        replace H : (if t160103 = 0 then (if a2 = true then (cal_AddSpan.j1 kj3 a0 (-1) a1_0 a1_1 a1_2 a1_3 a1_4 a1_5 a1_6) else (cal_AddSpan.j1 kj3 a0 1 a1_0 a1_1 a1_2 a1_3 a1_4 a1_5 a1_6)) else (some (0, t160103))) = some (r1, r2) := H
        have A8 := Aside0.mk A80
        clear A80
        by_cases c9 : t160103 = 0
        · rw [if_pos c9] at H
          have c9b0 : (t160103 == 0) = true := beq_iff_eq.mpr c9
          have c9b1 : (t160103 != 0) = false := bne_eq_false_iff_eq.mpr c9
          clear c9
          have HC10 := Aside0.mk H
          clear H
          have hcz11_0 : wc.cell? ⟨gb160101, 0, none⟩ = some (.int .i64 a1_0) := (blk_cell BK160101.out 0).trans rfl
          have hcz11_1 : wc.cell? ⟨gb160101, 1, none⟩ = some (.int .i64 a1_1) := (blk_cell BK160101.out 1).trans rfl
          have hcz11_2 : wc.cell? ⟨gb160101, 2, none⟩ = some (.int .i64 a1_2) := (blk_cell BK160101.out 2).trans rfl
          have hcz11_3 : wc.cell? ⟨gb160101, 3, none⟩ = some (.int .i64 a1_3) := (blk_cell BK160101.out 3).trans rfl
          have hcz11_4 : wc.cell? ⟨gb160101, 4, none⟩ = some (.int .i64 a1_4) := (blk_cell BK160101.out 4).trans rfl
          have hcz11_5 : wc.cell? ⟨gb160101, 5, none⟩ = some (.int .i64 a1_5) := (blk_cell BK160101.out 5).trans rfl
          have hcz11_6 : wc.cell? ⟨gb160101, 6, none⟩ = some (.int .i64 a1_6) := (blk_cell BK160101.out 6).trans rfl
          have hfz11_0 := blk_frozen BK160101.out 0
          have hfz11_1 := blk_frozen BK160101.out 1
          have hfz11_2 := blk_frozen BK160101.out 2
          have hfz11_3 := blk_frozen BK160101.out 3
          have hfz11_4 := blk_frozen BK160101.out 4
          have hfz11_5 := blk_frozen BK160101.out 5
          have hfz11_6 := blk_frozen BK160101.out 6
          go_upto_if 28 with (first | ((with_reducible refine gate_callee (f := 32) rfl ?_); refine goesL_ (some 22) rfl rfl Tryd.func32 (by kernel_rfl) rfl #[.agg #[.int .i64 a1_0, .int .i64 a1_1, .int .i64 a1_2, .int .i64 a1_3, .int .i64 a1_4, .int .i64 a1_5, .int .i64 a1_6]] rfl (by (try simp only [List.map_toArray, List.map_cons, List.map_nil]); first | done | rfl | (simp only [List.length_drop, List.length_take]; rfl)) ?_; (with_reducible refine (cal_PrintSpan.calls a1_0 a1_1 a1_2 a1_3 a1_4 a1_5 a1_6 t160102 t160103 _ A8.out).mono ?_); rintro e w12 ⟨rfl, hb⟩; refine ⟨_, rfl, ?_⟩; have n0_ := Aside0.mk (blk_below (g := gb160101) (o := .cells #[.int .i64 a1_0, .int .i64 a1_1, .int .i64 a1_2, .int .i64 a1_3, .int .i64 a1_4, .int .i64 a1_5, .int .i64 a1_6] 30 (0, 0)) (by (with_reducible repeat (first | refine blk_drewN ?_ _ | refine blk_drew ?_ | refine blk_alloc ?_ _)); exact BK160101.out) hb); have n1_ := Aside0.mk (below_step (by repeat (first | (with_reducible first | exact HB.out | apply below_alloc | apply pw_below_drewN | apply below_drew1 | refine below_set ?_ GE160101.out) | exact HB.out)) hb); clear BK160101; clear HB; have BK160101 := n0_; have HB := n1_; clear n0_ n1_; (try clear hb); (try clear hb2); (try clear hk); (try clear hi)))
          (try simp only [Act.put, List.setIfInBounds_toArray, List.set_cons_zero, List.set_cons_succ])
          go_cut [10] (fun v10 wc => ∃ (kq : Nat) (x10_9 : Int), v10 = .int .i64 x10_9 ∧ Aside0 (cal_AddSpan.j1 kq a0 x10_9 a1_0 a1_1 a1_2 a1_3 a1_4 a1_5 a1_6 = some (r1, r2)) ∧ Aside0 (kq ≤ kj3) ∧ Aside0 (wc.heap[gb160101]? = some (.cells #[.int .i64 a1_0, .int .i64 a1_1, .int .i64 a1_2, .int .i64 a1_3, .int .i64 a1_4, .int .i64 a1_5, .int .i64 a1_6] 30 (0, 0))) ∧ Aside0 (Below w.heap.size w wc))
          case first =>
            have H := HC10.out
            clear HC10
            by_cases c13 : a2 = true
            · subst c13
              have H1 : (cal_AddSpan.j1 kj3 a0 (-1) a1_0 a1_1 a1_2 a1_3 a1_4 a1_5 a1_6) = some (r1, r2) := by rw [if_pos rfl] at H; exact H
              clear H
              have H := H1
              clear H1
              have H' := Aside0.mk H
              clear H
              go_wp2
              go_meet
              case rel => exact ⟨_, ((-1)), (by first | rfl | (simp; done) | (simp [*]; done)), H', ⟨by have := HJ3.out; first | omega | exact Nat.le_refl _⟩, ⟨by (with_reducible repeat (first | refine blk_drewN ?_ _ | refine blk_drew ?_ | refine blk_alloc ?_ _)); exact BK160101.out⟩, ⟨by repeat (first | (with_reducible first | exact HB.out | apply below_alloc | apply pw_below_drewN | apply below_drew1 | refine below_set ?_ GE160101.out) | exact HB.out)⟩⟩
            · replace c13 := Bool.eq_false_iff.mpr c13
              subst c13
              have H1 : (cal_AddSpan.j1 kj3 a0 1 a1_0 a1_1 a1_2 a1_3 a1_4 a1_5 a1_6) = some (r1, r2) := by rw [if_neg (show ¬ (false = true) by decide)] at H; exact H
              clear H
              have H := H1
              clear H1
              have H' := Aside0.mk H
              clear H
              go_wp2
              go_meet
              case rel => exact ⟨_, (1), (by first | rfl | (simp; done) | (simp [*]; done)), H', ⟨by have := HJ3.out; first | omega | exact Nat.le_refl _⟩, ⟨by (with_reducible repeat (first | refine blk_drewN ?_ _ | refine blk_drew ?_ | refine blk_alloc ?_ _)); exact BK160101.out⟩, ⟨by repeat (first | (with_reducible first | exact HB.out | apply below_alloc | apply pw_below_drewN | apply below_drew1 | refine below_set ?_ GE160101.out) | exact HB.out)⟩⟩
          case rest =>
            clear HC10
            try clear c1
            try clear p2
            try clear c3
            try clear c6
            try clear c6b0
            try clear c7
            try clear c9
            try clear c9b0
            try clear c9b1
            try clear c13
            try clear hcz11_0
            try clear hcz11_1
            try clear hcz11_2
            try clear hcz11_3
            try clear hcz11_4
            try clear hcz11_5
            try clear hcz11_6
            try clear hfz11_0
            try clear hfz11_1
            try clear hfz11_2
            try clear hfz11_3
            try clear hfz11_4
            try clear hfz11_5
            try clear hfz11_6
            try clear p2
            obtain ⟨kq, x10_9, rfl, HA, HJ9, BK160101, HB⟩ := hcut
            cases kq with
            | zero => exact absurd HA.out (by simp [cal_AddSpan.j1])
            | succ kj9 =>
              have H := HA.out
              clear HA
              simp only [cal_AddSpan.j1] at H
              replace H := Option.bind_eq_some_iff.mp H
              obtain ⟨⟨t160104, t160105, t160106⟩, A140, H⟩ := H
              replace H : (if (wrap64 ((wrap64 ((wrap64 ((wrap64 (12 * t160104)) + t160105)) - 1)) + (wrap64 (x10_9 * (wrap64 ((wrap64 (12 * a1_0)) + a1_1)))))) < 0 then (cal_AddSpan.j2 kj9 a0 x10_9 (wrap64 ((wrap64 ((wrap64 ((wrap64 (12 * t160104)) + t160105)) - 1)) + (wrap64 (x10_9 * (wrap64 ((wrap64 (12 * a1_0)) + a1_1)))))) true a1_0 a1_1 a1_2 a1_3 a1_4 a1_5 a1_6 t160104 t160105 t160106) else (cal_AddSpan.j2 kj9 a0 x10_9 (wrap64 ((wrap64 ((wrap64 ((wrap64 (12 * t160104)) + t160105)) - 1)) + (wrap64 (x10_9 * (wrap64 ((wrap64 (12 * a1_0)) + a1_1)))))) (decide ((wrap64 (Int.tdiv (wrap64 ((wrap64 ((wrap64 ((wrap64 (12 * t160104)) + t160105)) - 1)) + (wrap64 (x10_9 * (wrap64 ((wrap64 (12 * a1_0)) + a1_1)))))) 12)) > 9999)) a1_0 a1_1 a1_2 a1_3 a1_4 a1_5 a1_6 t160104 t160105 t160106)) = some (r1, r2) := H
              have A14 := Aside0.mk A140
              clear A140
              have HC15 := Aside0.mk H
              clear H
              go_upto_region 11 with (first | ((with_reducible refine gate_callee (f := 35) rfl ?_); refine goesL_ (some 31) rfl rfl Tryd.func35 (by kernel_rfl) rfl #[.int .i64 (wrap64 (Int.tdiv a0 86400))] rfl (by (try simp only [List.map_toArray, List.map_cons, List.map_nil]); first | done | rfl | (simp only [List.length_drop, List.length_take]; rfl)) ?_; (with_reducible refine (cal_date.calls kj9 (wrap64 (Int.tdiv a0 86400)) t160104 t160105 t160106 _ ?side1 A14.out).mono ?_); (case side1 => refine GlobOk.below HG.out ?_; repeat (first | (with_reducible first | exact HB.out | apply below_alloc | apply pw_below_drewN | apply below_drew1 | refine below_set ?_ GE160101.out) | exact HB.out)); rintro e w16 ⟨rfl, hb⟩; refine ⟨_, rfl, ?_⟩; have n0_ := Aside0.mk (blk_below (g := gb160101) (o := .cells #[.int .i64 a1_0, .int .i64 a1_1, .int .i64 a1_2, .int .i64 a1_3, .int .i64 a1_4, .int .i64 a1_5, .int .i64 a1_6] 30 (0, 0)) (by (with_reducible repeat (first | refine blk_drewN ?_ _ | refine blk_drew ?_ | refine blk_alloc ?_ _)); exact BK160101.out) hb); have n1_ := Aside0.mk (below_step (by repeat (first | (with_reducible first | exact HB.out | apply below_alloc | apply pw_below_drewN | apply below_drew1 | refine below_set ?_ GE160101.out) | exact HB.out)) hb); clear BK160101; clear HB; have BK160101 := n0_; have HB := n1_; clear n0_ n1_; (try clear hb); (try clear hb2); (try clear hk); (try clear hi)) | ((with_reducible refine gate_dst (N := 11) rfl ?_); refine box_event ?hg (N := 11) ?hd (cs := #[.int .i64 0, .int .i64 0, .int .i64 0]) (t := 23) ?hr ?_; (case hd => rfl); (case hg => rfl); (case hr => first | (go_simp; done) | (go_simp; rfl)); intro gb160107 hg w17 hbox hb; have n0_ := Aside0.mk (blk_below (g := gb160101) (o := .cells #[.int .i64 a1_0, .int .i64 a1_1, .int .i64 a1_2, .int .i64 a1_3, .int .i64 a1_4, .int .i64 a1_5, .int .i64 a1_6] 30 (0, 0)) (by (with_reducible repeat (first | refine blk_drewN ?_ _ | refine blk_drew ?_ | refine blk_alloc ?_ _)); exact BK160101.out) hb); have n1_ := Aside0.mk (below_step (by repeat (first | (with_reducible first | exact HB.out | apply below_alloc | apply pw_below_drewN | apply below_drew1 | refine below_set ?_ GE160101.out) | exact HB.out)) hb); have n2_ := Aside0.mk (hbox); have n3_ := Aside0.mk ((by rw [hg]; exact (below_size (by repeat (first | (with_reducible first | exact HB.out | apply below_alloc | apply pw_below_drewN | apply below_drew1 | refine below_set ?_ GE160101.out) | exact HB.out))) : w.heap.size ≤ gb160107)); have n4_ := Aside0.mk ((by rw [hg]; exact (below_size (by repeat (first | (with_reducible first | exact HB.out | apply below_alloc | apply pw_below_drewN | apply below_drew1 | refine below_set ?_ GE160101.out) | exact HB.out))) : w.heap.size ≤ gb160107)); have n5_ := Aside0.mk ((by rw [hg]; exact Nat.ne_of_lt (blk_lt (g := gb160101) (o := .cells #[.int .i64 a1_0, .int .i64 a1_1, .int .i64 a1_2, .int .i64 a1_3, .int .i64 a1_4, .int .i64 a1_5, .int .i64 a1_6] 30 (0, 0)) (by (with_reducible repeat (first | refine blk_drewN ?_ _ | refine blk_drew ?_ | refine blk_alloc ?_ _)); exact BK160101.out)) : gb160101 ≠ gb160107)); have n6_ := Aside0.mk ((by rw [hg]; exact Nat.ne_of_gt (blk_lt (g := gb160101) (o := .cells #[.int .i64 a1_0, .int .i64 a1_1, .int .i64 a1_2, .int .i64 a1_3, .int .i64 a1_4, .int .i64 a1_5, .int .i64 a1_6] 30 (0, 0)) (by (with_reducible repeat (first | refine blk_drewN ?_ _ | refine blk_drew ?_ | refine blk_alloc ?_ _)); exact BK160101.out)) : gb160107 ≠ gb160101)); clear BK160101; clear HB; have BK160101 := n0_; have HB := n1_; have BK160107 := n2_; have GW160107 := n3_; have GE160107 := n4_; have NB160101_160107 := n5_; have NB160107_160101 := n6_; clear n0_ n1_ n2_ n3_ n4_ n5_ n6_; clear hb hbox hg; have hnb18 := NB160107_160101.out; have hnc18 := NB160101_160107.out; have hcz19_0 : w17.cell? ⟨gb160107, 0, none⟩ = some (.int .i64 0) := (blk_cell BK160107.out 0).trans rfl; have hcz19_1 : w17.cell? ⟨gb160107, 1, none⟩ = some (.int .i64 0) := (blk_cell BK160107.out 1).trans rfl; have hcz19_2 : w17.cell? ⟨gb160107, 2, none⟩ = some (.int .i64 0) := (blk_cell BK160107.out 2).trans rfl; have hfz19_0 := blk_frozen BK160107.out 0; have hfz19_1 := blk_frozen BK160107.out 1; have hfz19_2 := blk_frozen BK160107.out 2; have hcz20_0 : w17.cell? ⟨gb160101, 0, none⟩ = some (.int .i64 a1_0) := (blk_cell BK160101.out 0).trans rfl; have hcz20_1 : w17.cell? ⟨gb160101, 1, none⟩ = some (.int .i64 a1_1) := (blk_cell BK160101.out 1).trans rfl; have hcz20_2 : w17.cell? ⟨gb160101, 2, none⟩ = some (.int .i64 a1_2) := (blk_cell BK160101.out 2).trans rfl; have hcz20_3 : w17.cell? ⟨gb160101, 3, none⟩ = some (.int .i64 a1_3) := (blk_cell BK160101.out 3).trans rfl; have hcz20_4 : w17.cell? ⟨gb160101, 4, none⟩ = some (.int .i64 a1_4) := (blk_cell BK160101.out 4).trans rfl; have hcz20_5 : w17.cell? ⟨gb160101, 5, none⟩ = some (.int .i64 a1_5) := (blk_cell BK160101.out 5).trans rfl; have hcz20_6 : w17.cell? ⟨gb160101, 6, none⟩ = some (.int .i64 a1_6) := (blk_cell BK160101.out 6).trans rfl; have hfz20_0 := blk_frozen BK160101.out 0; have hfz20_1 := blk_frozen BK160101.out 1; have hfz20_2 := blk_frozen BK160101.out 2; have hfz20_3 := blk_frozen BK160101.out 3; have hfz20_4 := blk_frozen BK160101.out 4; have hfz20_5 := blk_frozen BK160101.out 5; have hfz20_6 := blk_frozen BK160101.out 6))
              (try simp only [Act.put, List.setIfInBounds_toArray, List.set_cons_zero, List.set_cons_succ])
              go_cut [54] (fun v54 wc => ∃ (kq : Nat) (x54_14 : Bool), v54 = .bool x54_14 ∧ Aside0 (cal_AddSpan.j2 kq a0 x10_9 (wrap64 ((wrap64 ((wrap64 ((wrap64 (12 * t160104)) + t160105)) - 1)) + (wrap64 (x10_9 * (wrap64 ((wrap64 (12 * a1_0)) + a1_1)))))) x54_14 a1_0 a1_1 a1_2 a1_3 a1_4 a1_5 a1_6 t160104 t160105 t160106 = some (r1, r2)) ∧ Aside0 (kq ≤ kj9) ∧ Aside0 (wc.heap[gb160101]? = some (.cells #[.int .i64 a1_0, .int .i64 a1_1, .int .i64 a1_2, .int .i64 a1_3, .int .i64 a1_4, .int .i64 a1_5, .int .i64 a1_6] 30 (0, 0))) ∧ Aside0 (wc.heap[gb160107]? = some (.cells #[.int .i64 t160104, .int .i64 t160105, .int .i64 t160106] 23 (0, 0))) ∧ Aside0 (Below w.heap.size w wc))
              case first =>
                have H := HC15.out
                clear HC15
                by_cases c21 : (wrap64 ((wrap64 ((wrap64 ((wrap64 (12 * t160104)) + t160105)) - 1)) + (wrap64 (x10_9 * (wrap64 ((wrap64 (12 * a1_0)) + a1_1)))))) < 0
                · rw [if_pos c21] at H
                  have c21b0 : decide ((wrap64 ((wrap64 ((wrap64 ((wrap64 (12 * t160104)) + t160105)) - 1)) + (wrap64 (x10_9 * (wrap64 ((wrap64 (12 * a1_0)) + a1_1)))))) < 0) = true := decide_eq_true c21
                  clear c21
                  (first | rw [c21b0] | (simp only [i64_w, i32_w]; rw [c21b0]) | skip)
                  have H' := Aside0.mk H
                  clear H
                  go_wp2
                  go_meet
                  case rel => exact ⟨_, (true), (by first | rfl | (simp; done) | (simp [*]; done)), H', ⟨by have := HJ3.out; have := HJ9.out; first | omega | exact Nat.le_refl _⟩, ⟨by (with_reducible repeat (first | refine blk_drewN ?_ _ | refine blk_drew ?_ | refine blk_alloc ?_ _)); refine blk_far ?_ NB160101_160107.out _; (with_reducible repeat (first | refine blk_drewN ?_ _ | refine blk_drew ?_ | refine blk_alloc ?_ _)); refine blk_far ?_ NB160101_160107.out _; (with_reducible repeat (first | refine blk_drewN ?_ _ | refine blk_drew ?_ | refine blk_alloc ?_ _)); refine blk_far ?_ NB160101_160107.out _; (with_reducible repeat (first | refine blk_drewN ?_ _ | refine blk_drew ?_ | refine blk_alloc ?_ _)); exact BK160101.out⟩, ⟨by (with_reducible repeat (first | refine blk_drewN ?_ _ | refine blk_drew ?_ | refine blk_alloc ?_ _)); refine blk_put (cs := #[.int .i64 t160104, .int .i64 t160105, .int .i64 0]) ?_ 2 _ rfl; (with_reducible repeat (first | refine blk_drewN ?_ _ | refine blk_drew ?_ | refine blk_alloc ?_ _)); refine blk_put (cs := #[.int .i64 t160104, .int .i64 0, .int .i64 0]) ?_ 1 _ rfl; (with_reducible repeat (first | refine blk_drewN ?_ _ | refine blk_drew ?_ | refine blk_alloc ?_ _)); refine blk_put (cs := #[.int .i64 0, .int .i64 0, .int .i64 0]) ?_ 0 _ rfl; (with_reducible repeat (first | refine blk_drewN ?_ _ | refine blk_drew ?_ | refine blk_alloc ?_ _)); exact BK160107.out⟩, ⟨by repeat (first | (with_reducible first | exact HB.out | apply below_alloc | apply pw_below_drewN | apply below_drew1 | refine below_set ?_ GE160101.out | refine below_set ?_ GE160107.out) | exact HB.out)⟩⟩
                · rw [if_neg c21] at H
                  have c21b0 : decide ((wrap64 ((wrap64 ((wrap64 ((wrap64 (12 * t160104)) + t160105)) - 1)) + (wrap64 (x10_9 * (wrap64 ((wrap64 (12 * a1_0)) + a1_1)))))) < 0) = false := decide_eq_false c21
                  clear c21
                  (first | rw [c21b0] | (simp only [i64_w, i32_w]; rw [c21b0]) | skip)
                  have H' := Aside0.mk H
                  clear H
                  go_wp2
                  go_meet
                  case rel => exact ⟨_, (decide ((wrap64 (Int.tdiv (wrap64 ((wrap64 ((wrap64 ((wrap64 (12 * t160104)) + t160105)) - 1)) + (wrap64 (x10_9 * (wrap64 ((wrap64 (12 * a1_0)) + a1_1)))))) 12)) > 9999)), (by first | rfl | (simp; done) | (simp [*]; done)), H', ⟨by have := HJ3.out; have := HJ9.out; first | omega | exact Nat.le_refl _⟩, ⟨by (with_reducible repeat (first | refine blk_drewN ?_ _ | refine blk_drew ?_ | refine blk_alloc ?_ _)); refine blk_far ?_ NB160101_160107.out _; (with_reducible repeat (first | refine blk_drewN ?_ _ | refine blk_drew ?_ | refine blk_alloc ?_ _)); refine blk_far ?_ NB160101_160107.out _; (with_reducible repeat (first | refine blk_drewN ?_ _ | refine blk_drew ?_ | refine blk_alloc ?_ _)); refine blk_far ?_ NB160101_160107.out _; (with_reducible repeat (first | refine blk_drewN ?_ _ | refine blk_drew ?_ | refine blk_alloc ?_ _)); exact BK160101.out⟩, ⟨by (with_reducible repeat (first | refine blk_drewN ?_ _ | refine blk_drew ?_ | refine blk_alloc ?_ _)); refine blk_put (cs := #[.int .i64 t160104, .int .i64 t160105, .int .i64 0]) ?_ 2 _ rfl; (with_reducible repeat (first | refine blk_drewN ?_ _ | refine blk_drew ?_ | refine blk_alloc ?_ _)); refine blk_put (cs := #[.int .i64 t160104, .int .i64 0, .int .i64 0]) ?_ 1 _ rfl; (with_reducible repeat (first | refine blk_drewN ?_ _ | refine blk_drew ?_ | refine blk_alloc ?_ _)); refine blk_put (cs := #[.int .i64 0, .int .i64 0, .int .i64 0]) ?_ 0 _ rfl; (with_reducible repeat (first | refine blk_drewN ?_ _ | refine blk_drew ?_ | refine blk_alloc ?_ _)); exact BK160107.out⟩, ⟨by repeat (first | (with_reducible first | exact HB.out | apply below_alloc | apply pw_below_drewN | apply below_drew1 | refine below_set ?_ GE160101.out | refine below_set ?_ GE160107.out) | exact HB.out)⟩⟩
              case rest =>
                clear HC15
                try clear c1
                try clear c2
                try clear p2
                try clear c3
                try clear c6
                try clear c6b0
                try clear p6
                try clear c7
                try clear c9
                try clear c9b0
                try clear c9b1
                try clear c13
                try clear c16
                try clear c18
                try clear c21
                try clear c21b0
                try clear hcz11_0
                try clear hcz11_1
                try clear hcz11_2
                try clear hcz11_3
                try clear hcz11_4
                try clear hcz11_5
                try clear hcz11_6
                try clear hcz19_0
                try clear hcz19_1
                try clear hcz19_2
                try clear hcz20_0
                try clear hcz20_1
                try clear hcz20_2
                try clear hcz20_3
                try clear hcz20_4
                try clear hcz20_5
                try clear hcz20_6
                try clear hfz11_0
                try clear hfz11_1
                try clear hfz11_2
                try clear hfz11_3
                try clear hfz11_4
                try clear hfz11_5
                try clear hfz11_6
                try clear hfz19_0
                try clear hfz19_1
                try clear hfz19_2
                try clear hfz20_0
                try clear hfz20_1
                try clear hfz20_2
                try clear hfz20_3
                try clear hfz20_4
                try clear hfz20_5
                try clear hfz20_6
                try clear p2
                obtain ⟨kq, x54_14, rfl, HA, HJ14, BK160101, BK160107, HB⟩ := hcut
                cases kq with
                | zero => exact absurd HA.out (by simp [cal_AddSpan.j2])
                | succ kj14 =>
                  have H := HA.out
                  clear HA
                  simp only [cal_AddSpan.j2] at H
                  by_cases c22 : x54_14 = true
                  · subst c22
                    have H1 : (some (0, 35)) = some (r1, r2) := by rw [if_pos rfl] at H; exact H
                    clear H
                    have H := H1
                    clear H1
                    simp only [Option.some.injEq, Prod.mk.injEq] at H
                    obtain ⟨rfl, rfl⟩ := H
                    go_wp2
                    go_ret2
                    exact ⟨by first | rfl | (simp [errW_none, errW_some] <;> rfl) | (simp [*, errW_none, errW_some] <;> rfl), by repeat (first | (with_reducible first | exact HB.out | apply below_alloc | apply pw_below_drewN | apply below_drew1 | refine below_set ?_ GE160101.out | refine below_set ?_ GE160107.out) | exact HB.out)⟩
                  · replace c22 := Bool.eq_false_iff.mpr c22
                    subst c22
                    have H1 : ((cal_daysOf.f (wrap64 (Int.tdiv (wrap64 ((wrap64 ((wrap64 ((wrap64 (12 * t160104)) + t160105)) - 1)) + (wrap64 (x10_9 * (wrap64 ((wrap64 (12 * a1_0)) + a1_1)))))) 12)) (wrap64 ((Int.tmod (wrap64 ((wrap64 ((wrap64 ((wrap64 (12 * t160104)) + t160105)) - 1)) + (wrap64 (x10_9 * (wrap64 ((wrap64 (12 * a1_0)) + a1_1)))))) 12) + 1))).bind fun t160108 => ((cal_number.f (wrap64 (Int.tdiv (wrap64 ((wrap64 ((wrap64 ((wrap64 (12 * t160104)) + t160105)) - 1)) + (wrap64 (x10_9 * (wrap64 ((wrap64 (12 * a1_0)) + a1_1)))))) 12)) (wrap64 ((Int.tmod (wrap64 ((wrap64 ((wrap64 ((wrap64 (12 * t160104)) + t160105)) - 1)) + (wrap64 (x10_9 * (wrap64 ((wrap64 (12 * a1_0)) + a1_1)))))) 12) + 1)) (mn t160106 t160108)).bind fun t160109 => (if (wrap64 ((wrap64 ((wrap64 (t160109 * 86400)) + (Int.tmod a0 86400))) + (wrap64 (x10_9 * (wrap64 ((wrap64 ((wrap64 ((wrap64 ((wrap64 ((wrap64 (7 * a1_2)) + a1_3)) * 86400)) + (wrap64 (3600 * a1_4)))) + (wrap64 (60 * a1_5)))) + a1_6)))))) < 0 then (some (0, 35)) else (if (wrap64 ((wrap64 ((wrap64 (t160109 * 86400)) + (Int.tmod a0 86400))) + (wrap64 (x10_9 * (wrap64 ((wrap64 ((wrap64 ((wrap64 ((wrap64 ((wrap64 (7 * a1_2)) + a1_3)) * 86400)) + (wrap64 (3600 * a1_4)))) + (wrap64 (60 * a1_5)))) + a1_6)))))) > 315569519999 then (some (0, 35)) else (some (wrap64 ((wrap64 ((wrap64 (t160109 * 86400)) + (Int.tmod a0 86400))) + (wrap64 (x10_9 * (wrap64 ((wrap64 ((wrap64 ((wrap64 ((wrap64 ((wrap64 (7 * a1_2)) + a1_3)) * 86400)) + (wrap64 (3600 * a1_4)))) + (wrap64 (60 * a1_5)))) + a1_6))))), 0)))))) = some (r1, r2) := by rw [if_neg (show ¬ (false = true) by decide)] at H; exact H
                    clear H
                    have H := H1
                    clear H1
                    replace H := Option.bind_eq_some_iff.mp H
                    obtain ⟨t160108, A230, H⟩ := H
                    replace H : ((cal_number.f (wrap64 (Int.tdiv (wrap64 ((wrap64 ((wrap64 ((wrap64 (12 * t160104)) + t160105)) - 1)) + (wrap64 (x10_9 * (wrap64 ((wrap64 (12 * a1_0)) + a1_1)))))) 12)) (wrap64 ((Int.tmod (wrap64 ((wrap64 ((wrap64 ((wrap64 (12 * t160104)) + t160105)) - 1)) + (wrap64 (x10_9 * (wrap64 ((wrap64 (12 * a1_0)) + a1_1)))))) 12) + 1)) (mn t160106 t160108)).bind fun t160109 => (if (wrap64 ((wrap64 ((wrap64 (t160109 * 86400)) + (Int.tmod a0 86400))) + (wrap64 (x10_9 * (wrap64 ((wrap64 ((wrap64 ((wrap64 ((wrap64 ((wrap64 (7 * a1_2)) + a1_3)) * 86400)) + (wrap64 (3600 * a1_4)))) + (wrap64 (60 * a1_5)))) + a1_6)))))) < 0 then (some (0, 35)) else (if (wrap64 ((wrap64 ((wrap64 (t160109 * 86400)) + (Int.tmod a0 86400))) + (wrap64 (x10_9 * (wrap64 ((wrap64 ((wrap64 ((wrap64 ((wrap64 ((wrap64 (7 * a1_2)) + a1_3)) * 86400)) + (wrap64 (3600 * a1_4)))) + (wrap64 (60 * a1_5)))) + a1_6)))))) > 315569519999 then (some (0, 35)) else (some (wrap64 ((wrap64 ((wrap64 (t160109 * 86400)) + (Int.tmod a0 86400))) + (wrap64 (x10_9 * (wrap64 ((wrap64 ((wrap64 ((wrap64 ((wrap64 ((wrap64 (7 * a1_2)) + a1_3)) * 86400)) + (wrap64 (3600 * a1_4)))) + (wrap64 (60 * a1_5)))) + a1_6))))), 0))))) = some (r1, r2) := H
                    have A23 := Aside0.mk A230
                    clear A230
                    obtain ⟨ji24, hji24⟩ : ∃ j_ : Int, (mn t160106 t160108) = j_ := ⟨_, rfl⟩
                    replace H : ((cal_number.f (wrap64 (Int.tdiv (wrap64 ((wrap64 ((wrap64 ((wrap64 (12 * t160104)) + t160105)) - 1)) + (wrap64 (x10_9 * (wrap64 ((wrap64 (12 * a1_0)) + a1_1)))))) 12)) (wrap64 ((Int.tmod (wrap64 ((wrap64 ((wrap64 ((wrap64 (12 * t160104)) + t160105)) - 1)) + (wrap64 (x10_9 * (wrap64 ((wrap64 (12 * a1_0)) + a1_1)))))) 12) + 1)) (ji24)).bind fun t160109 => (if (wrap64 ((wrap64 ((wrap64 (t160109 * 86400)) + (Int.tmod a0 86400))) + (wrap64 (x10_9 * (wrap64 ((wrap64 ((wrap64 ((wrap64 ((wrap64 ((wrap64 (7 * a1_2)) + a1_3)) * 86400)) + (wrap64 (3600 * a1_4)))) + (wrap64 (60 * a1_5)))) + a1_6)))))) < 0 then (some (0, 35)) else (if (wrap64 ((wrap64 ((wrap64 (t160109 * 86400)) + (Int.tmod a0 86400))) + (wrap64 (x10_9 * (wrap64 ((wrap64 ((wrap64 ((wrap64 ((wrap64 ((wrap64 (7 * a1_2)) + a1_3)) * 86400)) + (wrap64 (3600 * a1_4)))) + (wrap64 (60 * a1_5)))) + a1_6)))))) > 315569519999 then (some (0, 35)) else (some (wrap64 ((wrap64 ((wrap64 (t160109 * 86400)) + (Int.tmod a0 86400))) + (wrap64 (x10_9 * (wrap64 ((wrap64 ((wrap64 ((wrap64 ((wrap64 ((wrap64 (7 * a1_2)) + a1_3)) * 86400)) + (wrap64 (3600 * a1_4)))) + (wrap64 (60 * a1_5)))) + a1_6))))), 0))))) = some (r1, r2) := by first | (rw [hji24] at H; exact H) | (simp only [hji24] at H ⊢; exact H)
                    (try rw [hji24] at A23)
                    have hji24_ : (if t160108 < t160106 then t160108 else t160106) = ji24 := hji24
                    replace H := Option.bind_eq_some_iff.mp H
                    obtain ⟨t160109, A250, H⟩ := H
                    replace H : (if (wrap64 ((wrap64 ((wrap64 (t160109 * 86400)) + (Int.tmod a0 86400))) + (wrap64 (x10_9 * (wrap64 ((wrap64 ((wrap64 ((wrap64 ((wrap64 ((wrap64 (7 * a1_2)) + a1_3)) * 86400)) + (wrap64 (3600 * a1_4)))) + (wrap64 (60 * a1_5)))) + a1_6)))))) < 0 then (some (0, 35)) else (if (wrap64 ((wrap64 ((wrap64 (t160109 * 86400)) + (Int.tmod a0 86400))) + (wrap64 (x10_9 * (wrap64 ((wrap64 ((wrap64 ((wrap64 ((wrap64 ((wrap64 (7 * a1_2)) + a1_3)) * 86400)) + (wrap64 (3600 * a1_4)))) + (wrap64 (60 * a1_5)))) + a1_6)))))) > 315569519999 then (some (0, 35)) else (some (wrap64 ((wrap64 ((wrap64 (t160109 * 86400)) + (Int.tmod a0 86400))) + (wrap64 (x10_9 * (wrap64 ((wrap64 ((wrap64 ((wrap64 ((wrap64 ((wrap64 (7 * a1_2)) + a1_3)) * 86400)) + (wrap64 (3600 * a1_4)))) + (wrap64 (60 * a1_5)))) + a1_6))))), 0)))) = some (r1, r2) := H
                    have A25 := Aside0.mk A250
                    clear A250
                    by_cases c26 : (wrap64 ((wrap64 ((wrap64 (t160109 * 86400)) + (Int.tmod a0 86400))) + (wrap64 (x10_9 * (wrap64 ((wrap64 ((wrap64 ((wrap64 ((wrap64 ((wrap64 (7 * a1_2)) + a1_3)) * 86400)) + (wrap64 (3600 * a1_4)))) + (wrap64 (60 * a1_5)))) + a1_6)))))) < 0
                    · rw [if_pos c26] at H
                      have c26b0 : decide ((wrap64 ((wrap64 ((wrap64 (t160109 * 86400)) + (Int.tmod a0 86400))) + (wrap64 (x10_9 * (wrap64 ((wrap64 ((wrap64 ((wrap64 ((wrap64 ((wrap64 (7 * a1_2)) + a1_3)) * 86400)) + (wrap64 (3600 * a1_4)))) + (wrap64 (60 * a1_5)))) + a1_6)))))) < 0) = true := decide_eq_true c26
                      clear c26
                      simp only [Option.some.injEq, Prod.mk.injEq] at H
                      obtain ⟨rfl, rfl⟩ := H
                      have hnb27 := NB160107_160101.out
                      have hnc27 := NB160101_160107.out
                      have hcz28_0 : wc.cell? ⟨gb160107, 0, none⟩ = some (.int .i64 t160104) := (blk_cell BK160107.out 0).trans rfl
                      have hcz28_1 : wc.cell? ⟨gb160107, 1, none⟩ = some (.int .i64 t160105) := (blk_cell BK160107.out 1).trans rfl
                      have hcz28_2 : wc.cell? ⟨gb160107, 2, none⟩ = some (.int .i64 t160106) := (blk_cell BK160107.out 2).trans rfl
                      have hfz28_0 := blk_frozen BK160107.out 0
                      have hfz28_1 := blk_frozen BK160107.out 1
                      have hfz28_2 := blk_frozen BK160107.out 2
                      try go_wp2
                      have n0_ : Aside0 (((wc.setCell ⟨gb160107, 0, none⟩ (.int .i64 (wrap64 (Int.tdiv (wrap64 ((wrap64 ((wrap64 ((wrap64 (12 * t160104)) + t160105)) - 1)) + (wrap64 (x10_9 * (wrap64 ((wrap64 (12 * a1_0)) + a1_1)))))) 12)))).setCell ⟨gb160107, 1, none⟩ (.int .i64 (wrap64 ((Int.tmod (wrap64 ((wrap64 ((wrap64 ((wrap64 (12 * t160104)) + t160105)) - 1)) + (wrap64 (x10_9 * (wrap64 ((wrap64 (12 * a1_0)) + a1_1)))))) 12) + 1)))).heap[gb160101]? = some (.cells #[.int .i64 a1_0, .int .i64 a1_1, .int .i64 a1_2, .int .i64 a1_3, .int .i64 a1_4, .int .i64 a1_5, .int .i64 a1_6] 30 (0, 0))) := ⟨by (with_reducible repeat (first | refine blk_drewN ?_ _ | refine blk_drew ?_ | refine blk_alloc ?_ _)); refine blk_far ?_ NB160101_160107.out _; (with_reducible repeat (first | refine blk_drewN ?_ _ | refine blk_drew ?_ | refine blk_alloc ?_ _)); refine blk_far ?_ NB160101_160107.out _; (with_reducible repeat (first | refine blk_drewN ?_ _ | refine blk_drew ?_ | refine blk_alloc ?_ _)); exact BK160101.out⟩
                      have n1_ : Aside0 (((wc.setCell ⟨gb160107, 0, none⟩ (.int .i64 (wrap64 (Int.tdiv (wrap64 ((wrap64 ((wrap64 ((wrap64 (12 * t160104)) + t160105)) - 1)) + (wrap64 (x10_9 * (wrap64 ((wrap64 (12 * a1_0)) + a1_1)))))) 12)))).setCell ⟨gb160107, 1, none⟩ (.int .i64 (wrap64 ((Int.tmod (wrap64 ((wrap64 ((wrap64 ((wrap64 (12 * t160104)) + t160105)) - 1)) + (wrap64 (x10_9 * (wrap64 ((wrap64 (12 * a1_0)) + a1_1)))))) 12) + 1)))).heap[gb160107]? = some (.cells #[.int .i64 (wrap64 (Int.tdiv (wrap64 ((wrap64 ((wrap64 ((wrap64 (12 * t160104)) + t160105)) - 1)) + (wrap64 (x10_9 * (wrap64 ((wrap64 (12 * a1_0)) + a1_1)))))) 12)), .int .i64 (wrap64 ((Int.tmod (wrap64 ((wrap64 ((wrap64 ((wrap64 (12 * t160104)) + t160105)) - 1)) + (wrap64 (x10_9 * (wrap64 ((wrap64 (12 * a1_0)) + a1_1)))))) 12) + 1)), .int .i64 t160106] 23 (0, 0))) := ⟨by (with_reducible repeat (first | refine blk_drewN ?_ _ | refine blk_drew ?_ | refine blk_alloc ?_ _)); refine blk_put (cs := #[.int .i64 (wrap64 (Int.tdiv (wrap64 ((wrap64 ((wrap64 ((wrap64 (12 * t160104)) + t160105)) - 1)) + (wrap64 (x10_9 * (wrap64 ((wrap64 (12 * a1_0)) + a1_1)))))) 12)), .int .i64 t160105, .int .i64 t160106]) ?_ 1 _ rfl; (with_reducible repeat (first | refine blk_drewN ?_ _ | refine blk_drew ?_ | refine blk_alloc ?_ _)); refine blk_put (cs := #[.int .i64 t160104, .int .i64 t160105, .int .i64 t160106]) ?_ 0 _ rfl; (with_reducible repeat (first | refine blk_drewN ?_ _ | refine blk_drew ?_ | refine blk_alloc ?_ _)); exact BK160107.out⟩
                      have n2_ : Aside0 (Below w.heap.size w ((wc.setCell ⟨gb160107, 0, none⟩ (.int .i64 (wrap64 (Int.tdiv (wrap64 ((wrap64 ((wrap64 ((wrap64 (12 * t160104)) + t160105)) - 1)) + (wrap64 (x10_9 * (wrap64 ((wrap64 (12 * a1_0)) + a1_1)))))) 12)))).setCell ⟨gb160107, 1, none⟩ (.int .i64 (wrap64 ((Int.tmod (wrap64 ((wrap64 ((wrap64 ((wrap64 (12 * t160104)) + t160105)) - 1)) + (wrap64 (x10_9 * (wrap64 ((wrap64 (12 * a1_0)) + a1_1)))))) 12) + 1))))) := ⟨by repeat (first | (with_reducible first | exact HB.out | apply below_alloc | apply pw_below_drewN | apply below_drew1 | refine below_set ?_ GE160101.out | refine below_set ?_ GE160107.out) | exact HB.out)⟩
                      (try clear BK160101)
                      (try clear BK160107)
                      (try clear HB)
                      generalize ((wc.setCell ⟨gb160107, 0, none⟩ (.int .i64 (wrap64 (Int.tdiv (wrap64 ((wrap64 ((wrap64 ((wrap64 (12 * t160104)) + t160105)) - 1)) + (wrap64 (x10_9 * (wrap64 ((wrap64 (12 * a1_0)) + a1_1)))))) 12)))).setCell ⟨gb160107, 1, none⟩ (.int .i64 (wrap64 ((Int.tmod (wrap64 ((wrap64 ((wrap64 ((wrap64 (12 * t160104)) + t160105)) - 1)) + (wrap64 (x10_9 * (wrap64 ((wrap64 (12 * a1_0)) + a1_1)))))) 12) + 1)))) = w29 at n0_ n1_ n2_ ⊢
                      have BK160101 := n0_
                      have BK160107 := n1_
                      have HB := n2_
                      clear n0_ n1_ n2_
                      have n0_ := Aside0.mk (blk_drew BK160101.out)
                      have n1_ := Aside0.mk (blk_drew BK160107.out)
                      have n2_ := Aside0.mk (below_drew1 HB.out)
                      clear BK160101
                      clear BK160107
                      clear HB
                      have BK160101 := n0_
                      have BK160107 := n1_
                      have HB := n2_
                      clear n0_ n1_ n2_
                      refine start_ (n := 10) (S := fun w' => w'.cell? ⟨gb160107, 0, none⟩ = some (.int .i64 (wrap64 (Int.tdiv (wrap64 ((wrap64 ((wrap64 ((wrap64 (12 * t160104)) + t160105)) - 1)) + (wrap64 (x10_9 * (wrap64 ((wrap64 (12 * a1_0)) + a1_1)))))) 12))) ∧ w'.cell? ⟨gb160107, 1, none⟩ = some (.int .i64 (wrap64 ((Int.tmod (wrap64 ((wrap64 ((wrap64 ((wrap64 (12 * t160104)) + t160105)) - 1)) + (wrap64 (x10_9 * (wrap64 ((wrap64 (12 * a1_0)) + a1_1)))))) 12) + 1))) ∧ w'.cell? ⟨gb160107, 2, none⟩ = some (.int .i64 t160106)) (ds := [9]) #[false, false, false, false, false, false, false, false, false, false] (by kernel_rfl) rfl rfl ⟨(blk_cell BK160107.out 0).trans rfl, (blk_cell BK160107.out 1).trans rfl, (blk_cell BK160107.out 2).trans rfl⟩ (fun hHeld => ?_); refine with_tabW cal_AddSpan.tab14 cal_AddSpan.bits14 (fun HT_ HW_ => ?_)
                      generalize w29.drew = w30 at BK160101 BK160107 HB hHeld ⊢
                      refine pure_ (i := 0) (N := some 62) (v := ?_) (a' := ?_) #[true, false, false, false, false, false, false, false, false, false] rfl rfl (any_of HT_.out (by kernel_rfl)) (fun _ _ _ h => h) (Or.inl ⟨by rfl, ?_⟩) ?_ ?_
                      rotate_left
                      · intro w'
                        go_simp
                        with_reducible rfl
                      rotate_left
                      · simp only [Act.put, List.setIfInBounds_toArray, List.set_cons_zero, List.set_cons_succ, i64_w, i32_w]
                        rfl
                      refine pure_ (i := 2) (N := some 64) (v := ?_) (a' := ?_) #[true, false, true, false, false, false, false, false, false, false] rfl rfl (any_of HT_.out (by kernel_rfl)) (fun _ _ _ h => h) (Or.inl ⟨by rfl, ?_⟩) ?_ ?_
                      rotate_left
                      · intro w'
                        go_simp
                        with_reducible rfl
                      rotate_left
                      · simp only [Act.put, List.setIfInBounds_toArray, List.set_cons_zero, List.set_cons_succ, i64_w, i32_w]
                        rfl
                      refine pure_ (i := 4) (N := some 66) (v := ?_) (a' := ?_) #[true, false, true, false, true, false, false, false, false, false] rfl rfl (any_of HT_.out (by kernel_rfl)) (fun _ _ _ h => h) (Or.inl ⟨by rfl, ?_⟩) ?_ ?_
                      rotate_left
                      · intro w'
                        go_simp
                        with_reducible rfl
                      rotate_left
                      · simp only [Act.put, List.setIfInBounds_toArray, List.set_cons_zero, List.set_cons_succ, i64_w, i32_w]
                        rfl
                      refine take_ (i := 1) (N := some 63) (v := ?_) (a' := ?_) #[true, true, true, false, true, false, false, false, false, false] rfl rfl (take_ofW HT_.out HW_.out (by kernel_rfl)) (fun _ _ _ h => h) (Or.inl ⟨by rfl, ?_⟩) hHeld ?_ ?_
                      rotate_left
                      · rintro w' ⟨s0, s1, s2⟩
                        go_simp
                        with_reducible rfl
                      rotate_left
                      · simp only [Act.put, List.setIfInBounds_toArray, List.set_cons_zero, List.set_cons_succ, i64_w, i32_w]
                        rfl
                      refine take_ (i := 3) (N := some 65) (v := ?_) (a' := ?_) #[true, true, true, true, true, false, false, false, false, false] rfl rfl (take_ofW HT_.out HW_.out (by kernel_rfl)) (fun _ _ _ h => h) (Or.inl ⟨by rfl, ?_⟩) hHeld ?_ ?_
                      rotate_left
                      · rintro w' ⟨s0, s1, s2⟩
                        go_simp
                        with_reducible rfl
                      rotate_left
                      · simp only [Act.put, List.setIfInBounds_toArray, List.set_cons_zero, List.set_cons_succ, i64_w, i32_w]
                        rfl
                      refine take_ (i := 5) (N := some 67) (v := ?_) (a' := ?_) #[true, true, true, true, true, true, false, false, false, false] rfl rfl (take_ofW HT_.out HW_.out (by kernel_rfl)) (fun _ _ _ h => h) (Or.inl ⟨by rfl, ?_⟩) hHeld ?_ ?_
                      rotate_left
                      · rintro w' ⟨s0, s1, s2⟩
                        go_simp
                        with_reducible rfl
                      rotate_left
                      · simp only [Act.put, List.setIfInBounds_toArray, List.set_cons_zero, List.set_cons_succ, i64_w, i32_w]
                        rfl
                      refine one_ (i := 6) (N := some 68) #[true, true, true, true, true, true, true, false, false, false] rfl rfl (one_of HT_.out (by kernel_rfl)) (by decide) (fun K hK => ?_)
                      refine goes_ Tryd.func36 (by kernel_rfl) rfl #[.int .i64 (wrap64 (Int.tdiv (wrap64 ((wrap64 ((wrap64 ((wrap64 (12 * t160104)) + t160105)) - 1)) + (wrap64 (x10_9 * (wrap64 ((wrap64 (12 * a1_0)) + a1_1)))))) 12)), .int .i64 (wrap64 ((Int.tmod (wrap64 ((wrap64 ((wrap64 ((wrap64 (12 * t160104)) + t160105)) - 1)) + (wrap64 (x10_9 * (wrap64 ((wrap64 (12 * a1_0)) + a1_1)))))) 12) + 1))] (by rfl) rfl rfl (by (try simp only [List.map_toArray, List.map_cons, List.map_nil]); first | done | rfl | (simp only [List.length_drop, List.length_take]; rfl)) ?_
                      with_reducible refine (cal_daysOf.calls (wrap64 (Int.tdiv (wrap64 ((wrap64 ((wrap64 ((wrap64 (12 * t160104)) + t160105)) - 1)) + (wrap64 (x10_9 * (wrap64 ((wrap64 (12 * a1_0)) + a1_1)))))) 12)) (wrap64 ((Int.tmod (wrap64 ((wrap64 ((wrap64 ((wrap64 (12 * t160104)) + t160105)) - 1)) + (wrap64 (x10_9 * (wrap64 ((wrap64 (12 * a1_0)) + a1_1)))))) 12) + 1)) t160108 _ ?side1 A23.out).mono ?_
                      (case side1 => refine GlobOk.below HG.out ?_; repeat (first | (with_reducible first | exact HB.out | apply below_alloc | apply pw_below_drewN | apply below_drew1 | refine below_set ?_ GE160101.out | refine below_set ?_ GE160107.out) | exact HB.out))
                      rintro e w31 ⟨rfl, hb⟩
                      refine ⟨_, rfl, ?_⟩
                      have n0_ := Aside0.mk (blk_below (g := gb160101) (o := .cells #[.int .i64 a1_0, .int .i64 a1_1, .int .i64 a1_2, .int .i64 a1_3, .int .i64 a1_4, .int .i64 a1_5, .int .i64 a1_6] 30 (0, 0)) (by (with_reducible repeat (first | refine blk_drewN ?_ _ | refine blk_drew ?_ | refine blk_alloc ?_ _)); exact BK160101.out) hb)
                      have n1_ := Aside0.mk (blk_below (g := gb160107) (o := .cells #[.int .i64 (wrap64 (Int.tdiv (wrap64 ((wrap64 ((wrap64 ((wrap64 (12 * t160104)) + t160105)) - 1)) + (wrap64 (x10_9 * (wrap64 ((wrap64 (12 * a1_0)) + a1_1)))))) 12)), .int .i64 (wrap64 ((Int.tmod (wrap64 ((wrap64 ((wrap64 ((wrap64 (12 * t160104)) + t160105)) - 1)) + (wrap64 (x10_9 * (wrap64 ((wrap64 (12 * a1_0)) + a1_1)))))) 12) + 1)), .int .i64 t160106] 23 (0, 0)) (by (with_reducible repeat (first | refine blk_drewN ?_ _ | refine blk_drew ?_ | refine blk_alloc ?_ _)); exact BK160107.out) hb)
                      have n2_ := Aside0.mk (below_step (by repeat (first | (with_reducible first | exact HB.out | apply below_alloc | apply pw_below_drewN | apply below_drew1 | refine below_set ?_ GE160101.out | refine below_set ?_ GE160107.out) | exact HB.out)) hb)
                      clear BK160101
                      clear BK160107
                      clear HB
                      have BK160101 := n0_
                      have BK160107 := n1_
                      have HB := n2_
                      clear n0_ n1_ n2_
                      (try clear hb)
                      (try clear hb2)
                      (try clear hk)
                      (try clear hi)
                      refine hK.out _ _ ⟨(blk_cell BK160107.out 0).trans rfl, (blk_cell BK160107.out 1).trans rfl, (blk_cell BK160107.out 2).trans rfl⟩ (fun hHeld => ?_)
                      clear hK K
                      refine norm_ (a' := ?_) ?_ ?_
                      rotate_left
                      · show Act.put _ (some 68) _ = _
                        simp only [Act.put, List.setIfInBounds_toArray, List.set_cons_zero, List.set_cons_succ, i64_w, i32_w]
                        rfl
                      refine pure_ (i := 7) (N := some 69) (v := ?_) (a' := ?_) #[true, true, true, true, true, true, true, true, false, false] rfl rfl (any_of HT_.out (by kernel_rfl)) (fun _ _ _ h => h) (Or.inl ⟨by rfl, ?_⟩) ?_ ?_
                      rotate_left
                      · intro w'
                        go_simp
                        with_reducible rfl
                      rotate_left
                      · simp only [Act.put, List.setIfInBounds_toArray, List.set_cons_zero, List.set_cons_succ, i64_w, i32_w]
                        rfl
                      refine pure_ (i := 8) (N := some 70) (v := ?_) (a' := ?_) #[true, true, true, true, true, true, true, true, true, false] rfl rfl (any_of HT_.out (by kernel_rfl)) (fun _ _ _ h => h) (Or.inl ⟨by rfl, ?_⟩) ?_ ?_
                      rotate_left
                      · intro w'
                        go_simp
                        with_reducible rfl
                      rotate_left
                      · simp only [Act.put, List.setIfInBounds_toArray, List.set_cons_zero, List.set_cons_succ, i64_w, i32_w]
                        rfl
                      refine last_ (i := 9) (N := none) #[true, true, true, true, true, true, true, true, true, true] rfl rfl (one_of HT_.out (by kernel_rfl)) (by decide) (fun K hK => ?_)
                      have hs32 : w31.cell? ⟨gb160107, 2, none⟩ = some (.int .i64 t160106) := (blk_cell BK160107.out 2).trans rfl
                      have hfs32 := blk_frozen BK160107.out 2
                      have hns32_0 := NB160101_160107.out
                      have hms32_0 := NB160107_160101.out
                      refine skip_ (w1 := ?_) (by rfl) rfl ?_ ?_
                      rotate_left
                      · go_simp
                        rfl
                      refine hK.out _ _ ?_
                      clear hK K
                      refine done_ (done_of HT_.out (by kernel_rfl)) ?_
                      have hcz33_0 : w31.cell? ⟨gb160107, 0, none⟩ = some (.int .i64 (wrap64 (Int.tdiv (wrap64 ((wrap64 ((wrap64 ((wrap64 (12 * t160104)) + t160105)) - 1)) + (wrap64 (x10_9 * (wrap64 ((wrap64 (12 * a1_0)) + a1_1)))))) 12))) := (blk_cell BK160107.out 0).trans rfl
                      have hcz33_1 : w31.cell? ⟨gb160107, 1, none⟩ = some (.int .i64 (wrap64 ((Int.tmod (wrap64 ((wrap64 ((wrap64 ((wrap64 (12 * t160104)) + t160105)) - 1)) + (wrap64 (x10_9 * (wrap64 ((wrap64 (12 * a1_0)) + a1_1)))))) 12) + 1))) := (blk_cell BK160107.out 1).trans rfl
                      have hcz33_2 : w31.cell? ⟨gb160107, 2, none⟩ = some (.int .i64 t160106) := (blk_cell BK160107.out 2).trans rfl
                      have hfz33_0 := blk_frozen BK160107.out 0
                      have hfz33_1 := blk_frozen BK160107.out 1
                      have hfz33_2 := blk_frozen BK160107.out 2
                      try go_wp2_with (first | ((with_reducible refine gate_callee (f := 34) rfl ?_); refine goesL_ (some 72) rfl rfl Tryd.func34 (by kernel_rfl) rfl #[.agg #[.int .i64 (wrap64 (Int.tdiv (wrap64 ((wrap64 ((wrap64 ((wrap64 (12 * t160104)) + t160105)) - 1)) + (wrap64 (x10_9 * (wrap64 ((wrap64 (12 * a1_0)) + a1_1)))))) 12)), .int .i64 (wrap64 ((Int.tmod (wrap64 ((wrap64 ((wrap64 ((wrap64 (12 * t160104)) + t160105)) - 1)) + (wrap64 (x10_9 * (wrap64 ((wrap64 (12 * a1_0)) + a1_1)))))) 12) + 1)), .int .i64 ji24]] rfl (by (try simp only [List.map_toArray, List.map_cons, List.map_nil]); first | done | (simp only [hji24]; rfl) | rfl | (simp only [List.length_drop, List.length_take]; rfl)) ?_; (with_reducible refine (cal_number.calls (wrap64 (Int.tdiv (wrap64 ((wrap64 ((wrap64 ((wrap64 (12 * t160104)) + t160105)) - 1)) + (wrap64 (x10_9 * (wrap64 ((wrap64 (12 * a1_0)) + a1_1)))))) 12)) (wrap64 ((Int.tmod (wrap64 ((wrap64 ((wrap64 ((wrap64 (12 * t160104)) + t160105)) - 1)) + (wrap64 (x10_9 * (wrap64 ((wrap64 (12 * a1_0)) + a1_1)))))) 12) + 1)) ji24 t160109 _ ?side1 A25.out).mono ?_); (case side1 => refine GlobOk.below HG.out ?_; repeat (first | (with_reducible first | exact HB.out | apply below_alloc | apply pw_below_drewN | apply below_drew1 | refine below_set ?_ GE160101.out | refine below_set ?_ GE160107.out) | exact HB.out)); rintro e w34 ⟨rfl, hb⟩; refine ⟨_, rfl, ?_⟩; have n0_ := Aside0.mk (blk_below (g := gb160101) (o := .cells #[.int .i64 a1_0, .int .i64 a1_1, .int .i64 a1_2, .int .i64 a1_3, .int .i64 a1_4, .int .i64 a1_5, .int .i64 a1_6] 30 (0, 0)) (by (with_reducible repeat (first | refine blk_drewN ?_ _ | refine blk_drew ?_ | refine blk_alloc ?_ _)); refine blk_far ?_ NB160101_160107.out _; (with_reducible repeat (first | refine blk_drewN ?_ _ | refine blk_drew ?_ | refine blk_alloc ?_ _)); exact BK160101.out) hb); have n1_ := Aside0.mk (blk_below (g := gb160107) (o := .cells #[.int .i64 (wrap64 (Int.tdiv (wrap64 ((wrap64 ((wrap64 ((wrap64 (12 * t160104)) + t160105)) - 1)) + (wrap64 (x10_9 * (wrap64 ((wrap64 (12 * a1_0)) + a1_1)))))) 12)), .int .i64 (wrap64 ((Int.tmod (wrap64 ((wrap64 ((wrap64 ((wrap64 (12 * t160104)) + t160105)) - 1)) + (wrap64 (x10_9 * (wrap64 ((wrap64 (12 * a1_0)) + a1_1)))))) 12) + 1)), .int .i64 ji24] 23 (0, 0)) (by (with_reducible repeat (first | refine blk_drewN ?_ _ | refine blk_drew ?_ | refine blk_alloc ?_ _)); refine blk_put (cs := #[.int .i64 (wrap64 (Int.tdiv (wrap64 ((wrap64 ((wrap64 ((wrap64 (12 * t160104)) + t160105)) - 1)) + (wrap64 (x10_9 * (wrap64 ((wrap64 (12 * a1_0)) + a1_1)))))) 12)), .int .i64 (wrap64 ((Int.tmod (wrap64 ((wrap64 ((wrap64 ((wrap64 (12 * t160104)) + t160105)) - 1)) + (wrap64 (x10_9 * (wrap64 ((wrap64 (12 * a1_0)) + a1_1)))))) 12) + 1)), .int .i64 t160106]) ?_ 2 _ rfl; (with_reducible repeat (first | refine blk_drewN ?_ _ | refine blk_drew ?_ | refine blk_alloc ?_ _)); exact BK160107.out) hb); have n2_ := Aside0.mk (below_step (by repeat (first | (with_reducible first | exact HB.out | apply below_alloc | apply pw_below_drewN | apply below_drew1 | refine below_set ?_ GE160101.out | refine below_set ?_ GE160107.out) | exact HB.out)) hb); clear BK160101; clear BK160107; clear HB; have BK160101 := n0_; have BK160107 := n1_; have HB := n2_; clear n0_ n1_ n2_; (try clear hb); (try clear hb2); (try clear hk); (try clear hi); have hcz35_0 : w34.cell? ⟨gb160101, 0, none⟩ = some (.int .i64 a1_0) := (blk_cell BK160101.out 0).trans rfl; have hcz35_1 : w34.cell? ⟨gb160101, 1, none⟩ = some (.int .i64 a1_1) := (blk_cell BK160101.out 1).trans rfl; have hcz35_2 : w34.cell? ⟨gb160101, 2, none⟩ = some (.int .i64 a1_2) := (blk_cell BK160101.out 2).trans rfl; have hcz35_3 : w34.cell? ⟨gb160101, 3, none⟩ = some (.int .i64 a1_3) := (blk_cell BK160101.out 3).trans rfl; have hcz35_4 : w34.cell? ⟨gb160101, 4, none⟩ = some (.int .i64 a1_4) := (blk_cell BK160101.out 4).trans rfl; have hcz35_5 : w34.cell? ⟨gb160101, 5, none⟩ = some (.int .i64 a1_5) := (blk_cell BK160101.out 5).trans rfl; have hcz35_6 : w34.cell? ⟨gb160101, 6, none⟩ = some (.int .i64 a1_6) := (blk_cell BK160101.out 6).trans rfl; have hfz35_0 := blk_frozen BK160101.out 0; have hfz35_1 := blk_frozen BK160101.out 1; have hfz35_2 := blk_frozen BK160101.out 2; have hfz35_3 := blk_frozen BK160101.out 3; have hfz35_4 := blk_frozen BK160101.out 4; have hfz35_5 := blk_frozen BK160101.out 5; have hfz35_6 := blk_frozen BK160101.out 6))
                      go_ret2
                      exact ⟨by first | rfl | (simp [errW_none, errW_some] <;> rfl) | (simp only [← hji24]; first | rfl | (simp [errW_none, errW_some] <;> rfl)) | (simp [*, errW_none, errW_some] <;> rfl), by repeat (first | (with_reducible first | exact HB.out | apply below_alloc | apply pw_below_drewN | apply below_drew1 | refine below_set ?_ GE160101.out | refine below_set ?_ GE160107.out) | exact HB.out)⟩
                    · rw [if_neg c26] at H
                      have c26b0 : decide ((wrap64 ((wrap64 ((wrap64 (t160109 * 86400)) + (Int.tmod a0 86400))) + (wrap64 (x10_9 * (wrap64 ((wrap64 ((wrap64 ((wrap64 ((wrap64 ((wrap64 (7 * a1_2)) + a1_3)) * 86400)) + (wrap64 (3600 * a1_4)))) + (wrap64 (60 * a1_5)))) + a1_6)))))) < 0) = false := decide_eq_false c26
                      clear c26
                      by_cases c36 : (wrap64 ((wrap64 ((wrap64 (t160109 * 86400)) + (Int.tmod a0 86400))) + (wrap64 (x10_9 * (wrap64 ((wrap64 ((wrap64 ((wrap64 ((wrap64 ((wrap64 (7 * a1_2)) + a1_3)) * 86400)) + (wrap64 (3600 * a1_4)))) + (wrap64 (60 * a1_5)))) + a1_6)))))) > 315569519999
                      · rw [if_pos c36] at H
                        have c36b0 : decide (315569519999 < (wrap64 ((wrap64 ((wrap64 (t160109 * 86400)) + (Int.tmod a0 86400))) + (wrap64 (x10_9 * (wrap64 ((wrap64 ((wrap64 ((wrap64 ((wrap64 ((wrap64 (7 * a1_2)) + a1_3)) * 86400)) + (wrap64 (3600 * a1_4)))) + (wrap64 (60 * a1_5)))) + a1_6))))))) = true := decide_eq_true c36
                        clear c36
                        simp only [Option.some.injEq, Prod.mk.injEq] at H
                        obtain ⟨rfl, rfl⟩ := H
                        have hnb37 := NB160107_160101.out
                        have hnc37 := NB160101_160107.out
                        have hcz38_0 : wc.cell? ⟨gb160107, 0, none⟩ = some (.int .i64 t160104) := (blk_cell BK160107.out 0).trans rfl
                        have hcz38_1 : wc.cell? ⟨gb160107, 1, none⟩ = some (.int .i64 t160105) := (blk_cell BK160107.out 1).trans rfl
                        have hcz38_2 : wc.cell? ⟨gb160107, 2, none⟩ = some (.int .i64 t160106) := (blk_cell BK160107.out 2).trans rfl
                        have hfz38_0 := blk_frozen BK160107.out 0
                        have hfz38_1 := blk_frozen BK160107.out 1
                        have hfz38_2 := blk_frozen BK160107.out 2
                        try go_wp2
                        have n0_ : Aside0 (((wc.setCell ⟨gb160107, 0, none⟩ (.int .i64 (wrap64 (Int.tdiv (wrap64 ((wrap64 ((wrap64 ((wrap64 (12 * t160104)) + t160105)) - 1)) + (wrap64 (x10_9 * (wrap64 ((wrap64 (12 * a1_0)) + a1_1)))))) 12)))).setCell ⟨gb160107, 1, none⟩ (.int .i64 (wrap64 ((Int.tmod (wrap64 ((wrap64 ((wrap64 ((wrap64 (12 * t160104)) + t160105)) - 1)) + (wrap64 (x10_9 * (wrap64 ((wrap64 (12 * a1_0)) + a1_1)))))) 12) + 1)))).heap[gb160101]? = some (.cells #[.int .i64 a1_0, .int .i64 a1_1, .int .i64 a1_2, .int .i64 a1_3, .int .i64 a1_4, .int .i64 a1_5, .int .i64 a1_6] 30 (0, 0))) := ⟨by (with_reducible repeat (first | refine blk_drewN ?_ _ | refine blk_drew ?_ | refine blk_alloc ?_ _)); refine blk_far ?_ NB160101_160107.out _; (with_reducible repeat (first | refine blk_drewN ?_ _ | refine blk_drew ?_ | refine blk_alloc ?_ _)); refine blk_far ?_ NB160101_160107.out _; (with_reducible repeat (first | refine blk_drewN ?_ _ | refine blk_drew ?_ | refine blk_alloc ?_ _)); exact BK160101.out⟩
                        have n1_ : Aside0 (((wc.setCell ⟨gb160107, 0, none⟩ (.int .i64 (wrap64 (Int.tdiv (wrap64 ((wrap64 ((wrap64 ((wrap64 (12 * t160104)) + t160105)) - 1)) + (wrap64 (x10_9 * (wrap64 ((wrap64 (12 * a1_0)) + a1_1)))))) 12)))).setCell ⟨gb160107, 1, none⟩ (.int .i64 (wrap64 ((Int.tmod (wrap64 ((wrap64 ((wrap64 ((wrap64 (12 * t160104)) + t160105)) - 1)) + (wrap64 (x10_9 * (wrap64 ((wrap64 (12 * a1_0)) + a1_1)))))) 12) + 1)))).heap[gb160107]? = some (.cells #[.int .i64 (wrap64 (Int.tdiv (wrap64 ((wrap64 ((wrap64 ((wrap64 (12 * t160104)) + t160105)) - 1)) + (wrap64 (x10_9 * (wrap64 ((wrap64 (12 * a1_0)) + a1_1)))))) 12)), .int .i64 (wrap64 ((Int.tmod (wrap64 ((wrap64 ((wrap64 ((wrap64 (12 * t160104)) + t160105)) - 1)) + (wrap64 (x10_9 * (wrap64 ((wrap64 (12 * a1_0)) + a1_1)))))) 12) + 1)), .int .i64 t160106] 23 (0, 0))) := ⟨by (with_reducible repeat (first | refine blk_drewN ?_ _ | refine blk_drew ?_ | refine blk_alloc ?_ _)); refine blk_put (cs := #[.int .i64 (wrap64 (Int.tdiv (wrap64 ((wrap64 ((wrap64 ((wrap64 (12 * t160104)) + t160105)) - 1)) + (wrap64 (x10_9 * (wrap64 ((wrap64 (12 * a1_0)) + a1_1)))))) 12)), .int .i64 t160105, .int .i64 t160106]) ?_ 1 _ rfl; (with_reducible repeat (first | refine blk_drewN ?_ _ | refine blk_drew ?_ | refine blk_alloc ?_ _)); refine blk_put (cs := #[.int .i64 t160104, .int .i64 t160105, .int .i64 t160106]) ?_ 0 _ rfl; (with_reducible repeat (first | refine blk_drewN ?_ _ | refine blk_drew ?_ | refine blk_alloc ?_ _)); exact BK160107.out⟩
                        have n2_ : Aside0 (Below w.heap.size w ((wc.setCell ⟨gb160107, 0, none⟩ (.int .i64 (wrap64 (Int.tdiv (wrap64 ((wrap64 ((wrap64 ((wrap64 (12 * t160104)) + t160105)) - 1)) + (wrap64 (x10_9 * (wrap64 ((wrap64 (12 * a1_0)) + a1_1)))))) 12)))).setCell ⟨gb160107, 1, none⟩ (.int .i64 (wrap64 ((Int.tmod (wrap64 ((wrap64 ((wrap64 ((wrap64 (12 * t160104)) + t160105)) - 1)) + (wrap64 (x10_9 * (wrap64 ((wrap64 (12 * a1_0)) + a1_1)))))) 12) + 1))))) := ⟨by repeat (first | (with_reducible first | exact HB.out | apply below_alloc | apply pw_below_drewN | apply below_drew1 | refine below_set ?_ GE160101.out | refine below_set ?_ GE160107.out) | exact HB.out)⟩
                        (try clear BK160101)
                        (try clear BK160107)
                        (try clear HB)
                        generalize ((wc.setCell ⟨gb160107, 0, none⟩ (.int .i64 (wrap64 (Int.tdiv (wrap64 ((wrap64 ((wrap64 ((wrap64 (12 * t160104)) + t160105)) - 1)) + (wrap64 (x10_9 * (wrap64 ((wrap64 (12 * a1_0)) + a1_1)))))) 12)))).setCell ⟨gb160107, 1, none⟩ (.int .i64 (wrap64 ((Int.tmod (wrap64 ((wrap64 ((wrap64 ((wrap64 (12 * t160104)) + t160105)) - 1)) + (wrap64 (x10_9 * (wrap64 ((wrap64 (12 * a1_0)) + a1_1)))))) 12) + 1)))) = w39 at n0_ n1_ n2_ ⊢
                        have BK160101 := n0_
                        have BK160107 := n1_
                        have HB := n2_
                        clear n0_ n1_ n2_
                        have n0_ := Aside0.mk (blk_drew BK160101.out)
                        have n1_ := Aside0.mk (blk_drew BK160107.out)
                        have n2_ := Aside0.mk (below_drew1 HB.out)
                        clear BK160101
                        clear BK160107
                        clear HB
                        have BK160101 := n0_
                        have BK160107 := n1_
                        have HB := n2_
                        clear n0_ n1_ n2_
                        refine start_ (n := 10) (S := fun w' => w'.cell? ⟨gb160107, 0, none⟩ = some (.int .i64 (wrap64 (Int.tdiv (wrap64 ((wrap64 ((wrap64 ((wrap64 (12 * t160104)) + t160105)) - 1)) + (wrap64 (x10_9 * (wrap64 ((wrap64 (12 * a1_0)) + a1_1)))))) 12))) ∧ w'.cell? ⟨gb160107, 1, none⟩ = some (.int .i64 (wrap64 ((Int.tmod (wrap64 ((wrap64 ((wrap64 ((wrap64 (12 * t160104)) + t160105)) - 1)) + (wrap64 (x10_9 * (wrap64 ((wrap64 (12 * a1_0)) + a1_1)))))) 12) + 1))) ∧ w'.cell? ⟨gb160107, 2, none⟩ = some (.int .i64 t160106)) (ds := [9]) #[false, false, false, false, false, false, false, false, false, false] (by kernel_rfl) rfl rfl ⟨(blk_cell BK160107.out 0).trans rfl, (blk_cell BK160107.out 1).trans rfl, (blk_cell BK160107.out 2).trans rfl⟩ (fun hHeld => ?_); refine with_tabW cal_AddSpan.tab14 cal_AddSpan.bits14 (fun HT_ HW_ => ?_)
                        generalize w39.drew = w40 at BK160101 BK160107 HB hHeld ⊢
                        refine pure_ (i := 0) (N := some 62) (v := ?_) (a' := ?_) #[true, false, false, false, false, false, false, false, false, false] rfl rfl (any_of HT_.out (by kernel_rfl)) (fun _ _ _ h => h) (Or.inl ⟨by rfl, ?_⟩) ?_ ?_
                        rotate_left
                        · intro w'
                          go_simp
                          with_reducible rfl
                        rotate_left
                        · simp only [Act.put, List.setIfInBounds_toArray, List.set_cons_zero, List.set_cons_succ, i64_w, i32_w]
                          rfl
                        refine pure_ (i := 2) (N := some 64) (v := ?_) (a' := ?_) #[true, false, true, false, false, false, false, false, false, false] rfl rfl (any_of HT_.out (by kernel_rfl)) (fun _ _ _ h => h) (Or.inl ⟨by rfl, ?_⟩) ?_ ?_
                        rotate_left
                        · intro w'
                          go_simp
                          with_reducible rfl
                        rotate_left
                        · simp only [Act.put, List.setIfInBounds_toArray, List.set_cons_zero, List.set_cons_succ, i64_w, i32_w]
                          rfl
                        refine pure_ (i := 4) (N := some 66) (v := ?_) (a' := ?_) #[true, false, true, false, true, false, false, false, false, false] rfl rfl (any_of HT_.out (by kernel_rfl)) (fun _ _ _ h => h) (Or.inl ⟨by rfl, ?_⟩) ?_ ?_
                        rotate_left
                        · intro w'
                          go_simp
                          with_reducible rfl
                        rotate_left
                        · simp only [Act.put, List.setIfInBounds_toArray, List.set_cons_zero, List.set_cons_succ, i64_w, i32_w]
                          rfl
                        refine take_ (i := 1) (N := some 63) (v := ?_) (a' := ?_) #[true, true, true, false, true, false, false, false, false, false] rfl rfl (take_ofW HT_.out HW_.out (by kernel_rfl)) (fun _ _ _ h => h) (Or.inl ⟨by rfl, ?_⟩) hHeld ?_ ?_
                        rotate_left
                        · rintro w' ⟨s0, s1, s2⟩
                          go_simp
                          with_reducible rfl
                        rotate_left
                        · simp only [Act.put, List.setIfInBounds_toArray, List.set_cons_zero, List.set_cons_succ, i64_w, i32_w]
                          rfl
                        refine take_ (i := 3) (N := some 65) (v := ?_) (a' := ?_) #[true, true, true, true, true, false, false, false, false, false] rfl rfl (take_ofW HT_.out HW_.out (by kernel_rfl)) (fun _ _ _ h => h) (Or.inl ⟨by rfl, ?_⟩) hHeld ?_ ?_
                        rotate_left
                        · rintro w' ⟨s0, s1, s2⟩
                          go_simp
                          with_reducible rfl
                        rotate_left
                        · simp only [Act.put, List.setIfInBounds_toArray, List.set_cons_zero, List.set_cons_succ, i64_w, i32_w]
                          rfl
                        refine take_ (i := 5) (N := some 67) (v := ?_) (a' := ?_) #[true, true, true, true, true, true, false, false, false, false] rfl rfl (take_ofW HT_.out HW_.out (by kernel_rfl)) (fun _ _ _ h => h) (Or.inl ⟨by rfl, ?_⟩) hHeld ?_ ?_
                        rotate_left
                        · rintro w' ⟨s0, s1, s2⟩
                          go_simp
                          with_reducible rfl
                        rotate_left
                        · simp only [Act.put, List.setIfInBounds_toArray, List.set_cons_zero, List.set_cons_succ, i64_w, i32_w]
                          rfl
                        refine one_ (i := 6) (N := some 68) #[true, true, true, true, true, true, true, false, false, false] rfl rfl (one_of HT_.out (by kernel_rfl)) (by decide) (fun K hK => ?_)
                        refine goes_ Tryd.func36 (by kernel_rfl) rfl #[.int .i64 (wrap64 (Int.tdiv (wrap64 ((wrap64 ((wrap64 ((wrap64 (12 * t160104)) + t160105)) - 1)) + (wrap64 (x10_9 * (wrap64 ((wrap64 (12 * a1_0)) + a1_1)))))) 12)), .int .i64 (wrap64 ((Int.tmod (wrap64 ((wrap64 ((wrap64 ((wrap64 (12 * t160104)) + t160105)) - 1)) + (wrap64 (x10_9 * (wrap64 ((wrap64 (12 * a1_0)) + a1_1)))))) 12) + 1))] (by rfl) rfl rfl (by (try simp only [List.map_toArray, List.map_cons, List.map_nil]); first | done | rfl | (simp only [List.length_drop, List.length_take]; rfl)) ?_
                        with_reducible refine (cal_daysOf.calls (wrap64 (Int.tdiv (wrap64 ((wrap64 ((wrap64 ((wrap64 (12 * t160104)) + t160105)) - 1)) + (wrap64 (x10_9 * (wrap64 ((wrap64 (12 * a1_0)) + a1_1)))))) 12)) (wrap64 ((Int.tmod (wrap64 ((wrap64 ((wrap64 ((wrap64 (12 * t160104)) + t160105)) - 1)) + (wrap64 (x10_9 * (wrap64 ((wrap64 (12 * a1_0)) + a1_1)))))) 12) + 1)) t160108 _ ?side1 A23.out).mono ?_
                        (case side1 => refine GlobOk.below HG.out ?_; repeat (first | (with_reducible first | exact HB.out | apply below_alloc | apply pw_below_drewN | apply below_drew1 | refine below_set ?_ GE160101.out | refine below_set ?_ GE160107.out) | exact HB.out))
                        rintro e w41 ⟨rfl, hb⟩
                        refine ⟨_, rfl, ?_⟩
                        have n0_ := Aside0.mk (blk_below (g := gb160101) (o := .cells #[.int .i64 a1_0, .int .i64 a1_1, .int .i64 a1_2, .int .i64 a1_3, .int .i64 a1_4, .int .i64 a1_5, .int .i64 a1_6] 30 (0, 0)) (by (with_reducible repeat (first | refine blk_drewN ?_ _ | refine blk_drew ?_ | refine blk_alloc ?_ _)); exact BK160101.out) hb)
                        have n1_ := Aside0.mk (blk_below (g := gb160107) (o := .cells #[.int .i64 (wrap64 (Int.tdiv (wrap64 ((wrap64 ((wrap64 ((wrap64 (12 * t160104)) + t160105)) - 1)) + (wrap64 (x10_9 * (wrap64 ((wrap64 (12 * a1_0)) + a1_1)))))) 12)), .int .i64 (wrap64 ((Int.tmod (wrap64 ((wrap64 ((wrap64 ((wrap64 (12 * t160104)) + t160105)) - 1)) + (wrap64 (x10_9 * (wrap64 ((wrap64 (12 * a1_0)) + a1_1)))))) 12) + 1)), .int .i64 t160106] 23 (0, 0)) (by (with_reducible repeat (first | refine blk_drewN ?_ _ | refine blk_drew ?_ | refine blk_alloc ?_ _)); exact BK160107.out) hb)
                        have n2_ := Aside0.mk (below_step (by repeat (first | (with_reducible first | exact HB.out | apply below_alloc | apply pw_below_drewN | apply below_drew1 | refine below_set ?_ GE160101.out | refine below_set ?_ GE160107.out) | exact HB.out)) hb)
                        clear BK160101
                        clear BK160107
                        clear HB
                        have BK160101 := n0_
                        have BK160107 := n1_
                        have HB := n2_
                        clear n0_ n1_ n2_
                        (try clear hb)
                        (try clear hb2)
                        (try clear hk)
                        (try clear hi)
                        refine hK.out _ _ ⟨(blk_cell BK160107.out 0).trans rfl, (blk_cell BK160107.out 1).trans rfl, (blk_cell BK160107.out 2).trans rfl⟩ (fun hHeld => ?_)
                        clear hK K
                        refine norm_ (a' := ?_) ?_ ?_
                        rotate_left
                        · show Act.put _ (some 68) _ = _
                          simp only [Act.put, List.setIfInBounds_toArray, List.set_cons_zero, List.set_cons_succ, i64_w, i32_w]
                          rfl
                        refine pure_ (i := 7) (N := some 69) (v := ?_) (a' := ?_) #[true, true, true, true, true, true, true, true, false, false] rfl rfl (any_of HT_.out (by kernel_rfl)) (fun _ _ _ h => h) (Or.inl ⟨by rfl, ?_⟩) ?_ ?_
                        rotate_left
                        · intro w'
                          go_simp
                          with_reducible rfl
                        rotate_left
                        · simp only [Act.put, List.setIfInBounds_toArray, List.set_cons_zero, List.set_cons_succ, i64_w, i32_w]
                          rfl
                        refine pure_ (i := 8) (N := some 70) (v := ?_) (a' := ?_) #[true, true, true, true, true, true, true, true, true, false] rfl rfl (any_of HT_.out (by kernel_rfl)) (fun _ _ _ h => h) (Or.inl ⟨by rfl, ?_⟩) ?_ ?_
                        rotate_left
                        · intro w'
                          go_simp
                          with_reducible rfl
                        rotate_left
                        · simp only [Act.put, List.setIfInBounds_toArray, List.set_cons_zero, List.set_cons_succ, i64_w, i32_w]
                          rfl
                        refine last_ (i := 9) (N := none) #[true, true, true, true, true, true, true, true, true, true] rfl rfl (one_of HT_.out (by kernel_rfl)) (by decide) (fun K hK => ?_)
                        have hs42 : w41.cell? ⟨gb160107, 2, none⟩ = some (.int .i64 t160106) := (blk_cell BK160107.out 2).trans rfl
                        have hfs42 := blk_frozen BK160107.out 2
                        have hns42_0 := NB160101_160107.out
                        have hms42_0 := NB160107_160101.out
                        refine skip_ (w1 := ?_) (by rfl) rfl ?_ ?_
                        rotate_left
                        · go_simp
                          rfl
                        refine hK.out _ _ ?_
                        clear hK K
                        refine done_ (done_of HT_.out (by kernel_rfl)) ?_
                        have hcz43_0 : w41.cell? ⟨gb160107, 0, none⟩ = some (.int .i64 (wrap64 (Int.tdiv (wrap64 ((wrap64 ((wrap64 ((wrap64 (12 * t160104)) + t160105)) - 1)) + (wrap64 (x10_9 * (wrap64 ((wrap64 (12 * a1_0)) + a1_1)))))) 12))) := (blk_cell BK160107.out 0).trans rfl
                        have hcz43_1 : w41.cell? ⟨gb160107, 1, none⟩ = some (.int .i64 (wrap64 ((Int.tmod (wrap64 ((wrap64 ((wrap64 ((wrap64 (12 * t160104)) + t160105)) - 1)) + (wrap64 (x10_9 * (wrap64 ((wrap64 (12 * a1_0)) + a1_1)))))) 12) + 1))) := (blk_cell BK160107.out 1).trans rfl
                        have hcz43_2 : w41.cell? ⟨gb160107, 2, none⟩ = some (.int .i64 t160106) := (blk_cell BK160107.out 2).trans rfl
                        have hfz43_0 := blk_frozen BK160107.out 0
                        have hfz43_1 := blk_frozen BK160107.out 1
                        have hfz43_2 := blk_frozen BK160107.out 2
                        try go_wp2_with (first | ((with_reducible refine gate_callee (f := 34) rfl ?_); refine goesL_ (some 72) rfl rfl Tryd.func34 (by kernel_rfl) rfl #[.agg #[.int .i64 (wrap64 (Int.tdiv (wrap64 ((wrap64 ((wrap64 ((wrap64 (12 * t160104)) + t160105)) - 1)) + (wrap64 (x10_9 * (wrap64 ((wrap64 (12 * a1_0)) + a1_1)))))) 12)), .int .i64 (wrap64 ((Int.tmod (wrap64 ((wrap64 ((wrap64 ((wrap64 (12 * t160104)) + t160105)) - 1)) + (wrap64 (x10_9 * (wrap64 ((wrap64 (12 * a1_0)) + a1_1)))))) 12) + 1)), .int .i64 ji24]] rfl (by (try simp only [List.map_toArray, List.map_cons, List.map_nil]); first | done | (simp only [hji24]; rfl) | rfl | (simp only [List.length_drop, List.length_take]; rfl)) ?_; (with_reducible refine (cal_number.calls (wrap64 (Int.tdiv (wrap64 ((wrap64 ((wrap64 ((wrap64 (12 * t160104)) + t160105)) - 1)) + (wrap64 (x10_9 * (wrap64 ((wrap64 (12 * a1_0)) + a1_1)))))) 12)) (wrap64 ((Int.tmod (wrap64 ((wrap64 ((wrap64 ((wrap64 (12 * t160104)) + t160105)) - 1)) + (wrap64 (x10_9 * (wrap64 ((wrap64 (12 * a1_0)) + a1_1)))))) 12) + 1)) ji24 t160109 _ ?side1 A25.out).mono ?_); (case side1 => refine GlobOk.below HG.out ?_; repeat (first | (with_reducible first | exact HB.out | apply below_alloc | apply pw_below_drewN | apply below_drew1 | refine below_set ?_ GE160101.out | refine below_set ?_ GE160107.out) | exact HB.out)); rintro e w44 ⟨rfl, hb⟩; refine ⟨_, rfl, ?_⟩; have n0_ := Aside0.mk (blk_below (g := gb160101) (o := .cells #[.int .i64 a1_0, .int .i64 a1_1, .int .i64 a1_2, .int .i64 a1_3, .int .i64 a1_4, .int .i64 a1_5, .int .i64 a1_6] 30 (0, 0)) (by (with_reducible repeat (first | refine blk_drewN ?_ _ | refine blk_drew ?_ | refine blk_alloc ?_ _)); refine blk_far ?_ NB160101_160107.out _; (with_reducible repeat (first | refine blk_drewN ?_ _ | refine blk_drew ?_ | refine blk_alloc ?_ _)); exact BK160101.out) hb); have n1_ := Aside0.mk (blk_below (g := gb160107) (o := .cells #[.int .i64 (wrap64 (Int.tdiv (wrap64 ((wrap64 ((wrap64 ((wrap64 (12 * t160104)) + t160105)) - 1)) + (wrap64 (x10_9 * (wrap64 ((wrap64 (12 * a1_0)) + a1_1)))))) 12)), .int .i64 (wrap64 ((Int.tmod (wrap64 ((wrap64 ((wrap64 ((wrap64 (12 * t160104)) + t160105)) - 1)) + (wrap64 (x10_9 * (wrap64 ((wrap64 (12 * a1_0)) + a1_1)))))) 12) + 1)), .int .i64 ji24] 23 (0, 0)) (by (with_reducible repeat (first | refine blk_drewN ?_ _ | refine blk_drew ?_ | refine blk_alloc ?_ _)); refine blk_put (cs := #[.int .i64 (wrap64 (Int.tdiv (wrap64 ((wrap64 ((wrap64 ((wrap64 (12 * t160104)) + t160105)) - 1)) + (wrap64 (x10_9 * (wrap64 ((wrap64 (12 * a1_0)) + a1_1)))))) 12)), .int .i64 (wrap64 ((Int.tmod (wrap64 ((wrap64 ((wrap64 ((wrap64 (12 * t160104)) + t160105)) - 1)) + (wrap64 (x10_9 * (wrap64 ((wrap64 (12 * a1_0)) + a1_1)))))) 12) + 1)), .int .i64 t160106]) ?_ 2 _ rfl; (with_reducible repeat (first | refine blk_drewN ?_ _ | refine blk_drew ?_ | refine blk_alloc ?_ _)); exact BK160107.out) hb); have n2_ := Aside0.mk (below_step (by repeat (first | (with_reducible first | exact HB.out | apply below_alloc | apply pw_below_drewN | apply below_drew1 | refine below_set ?_ GE160101.out | refine below_set ?_ GE160107.out) | exact HB.out)) hb); clear BK160101; clear BK160107; clear HB; have BK160101 := n0_; have BK160107 := n1_; have HB := n2_; clear n0_ n1_ n2_; (try clear hb); (try clear hb2); (try clear hk); (try clear hi); have hcz45_0 : w44.cell? ⟨gb160101, 0, none⟩ = some (.int .i64 a1_0) := (blk_cell BK160101.out 0).trans rfl; have hcz45_1 : w44.cell? ⟨gb160101, 1, none⟩ = some (.int .i64 a1_1) := (blk_cell BK160101.out 1).trans rfl; have hcz45_2 : w44.cell? ⟨gb160101, 2, none⟩ = some (.int .i64 a1_2) := (blk_cell BK160101.out 2).trans rfl; have hcz45_3 : w44.cell? ⟨gb160101, 3, none⟩ = some (.int .i64 a1_3) := (blk_cell BK160101.out 3).trans rfl; have hcz45_4 : w44.cell? ⟨gb160101, 4, none⟩ = some (.int .i64 a1_4) := (blk_cell BK160101.out 4).trans rfl; have hcz45_5 : w44.cell? ⟨gb160101, 5, none⟩ = some (.int .i64 a1_5) := (blk_cell BK160101.out 5).trans rfl; have hcz45_6 : w44.cell? ⟨gb160101, 6, none⟩ = some (.int .i64 a1_6) := (blk_cell BK160101.out 6).trans rfl; have hfz45_0 := blk_frozen BK160101.out 0; have hfz45_1 := blk_frozen BK160101.out 1; have hfz45_2 := blk_frozen BK160101.out 2; have hfz45_3 := blk_frozen BK160101.out 3; have hfz45_4 := blk_frozen BK160101.out 4; have hfz45_5 := blk_frozen BK160101.out 5; have hfz45_6 := blk_frozen BK160101.out 6))
                        go_ret2
                        exact ⟨by first | rfl | (simp [errW_none, errW_some] <;> rfl) | (simp only [← hji24]; first | rfl | (simp [errW_none, errW_some] <;> rfl)) | (simp [*, errW_none, errW_some] <;> rfl), by repeat (first | (with_reducible first | exact HB.out | apply below_alloc | apply pw_below_drewN | apply below_drew1 | refine below_set ?_ GE160101.out | refine below_set ?_ GE160107.out) | exact HB.out)⟩
                      · rw [if_neg c36] at H
                        have c36b0 : decide (315569519999 < (wrap64 ((wrap64 ((wrap64 (t160109 * 86400)) + (Int.tmod a0 86400))) + (wrap64 (x10_9 * (wrap64 ((wrap64 ((wrap64 ((wrap64 ((wrap64 ((wrap64 (7 * a1_2)) + a1_3)) * 86400)) + (wrap64 (3600 * a1_4)))) + (wrap64 (60 * a1_5)))) + a1_6))))))) = false := decide_eq_false c36
                        clear c36
                        simp only [Option.some.injEq, Prod.mk.injEq] at H
                        obtain ⟨rfl, rfl⟩ := H
                        have hnb46 := NB160107_160101.out
                        have hnc46 := NB160101_160107.out
                        have hcz47_0 : wc.cell? ⟨gb160107, 0, none⟩ = some (.int .i64 t160104) := (blk_cell BK160107.out 0).trans rfl
                        have hcz47_1 : wc.cell? ⟨gb160107, 1, none⟩ = some (.int .i64 t160105) := (blk_cell BK160107.out 1).trans rfl
                        have hcz47_2 : wc.cell? ⟨gb160107, 2, none⟩ = some (.int .i64 t160106) := (blk_cell BK160107.out 2).trans rfl
                        have hfz47_0 := blk_frozen BK160107.out 0
                        have hfz47_1 := blk_frozen BK160107.out 1
                        have hfz47_2 := blk_frozen BK160107.out 2
                        try go_wp2
                        have n0_ : Aside0 (((wc.setCell ⟨gb160107, 0, none⟩ (.int .i64 (wrap64 (Int.tdiv (wrap64 ((wrap64 ((wrap64 ((wrap64 (12 * t160104)) + t160105)) - 1)) + (wrap64 (x10_9 * (wrap64 ((wrap64 (12 * a1_0)) + a1_1)))))) 12)))).setCell ⟨gb160107, 1, none⟩ (.int .i64 (wrap64 ((Int.tmod (wrap64 ((wrap64 ((wrap64 ((wrap64 (12 * t160104)) + t160105)) - 1)) + (wrap64 (x10_9 * (wrap64 ((wrap64 (12 * a1_0)) + a1_1)))))) 12) + 1)))).heap[gb160101]? = some (.cells #[.int .i64 a1_0, .int .i64 a1_1, .int .i64 a1_2, .int .i64 a1_3, .int .i64 a1_4, .int .i64 a1_5, .int .i64 a1_6] 30 (0, 0))) := ⟨by (with_reducible repeat (first | refine blk_drewN ?_ _ | refine blk_drew ?_ | refine blk_alloc ?_ _)); refine blk_far ?_ NB160101_160107.out _; (with_reducible repeat (first | refine blk_drewN ?_ _ | refine blk_drew ?_ | refine blk_alloc ?_ _)); refine blk_far ?_ NB160101_160107.out _; (with_reducible repeat (first | refine blk_drewN ?_ _ | refine blk_drew ?_ | refine blk_alloc ?_ _)); exact BK160101.out⟩
                        have n1_ : Aside0 (((wc.setCell ⟨gb160107, 0, none⟩ (.int .i64 (wrap64 (Int.tdiv (wrap64 ((wrap64 ((wrap64 ((wrap64 (12 * t160104)) + t160105)) - 1)) + (wrap64 (x10_9 * (wrap64 ((wrap64 (12 * a1_0)) + a1_1)))))) 12)))).setCell ⟨gb160107, 1, none⟩ (.int .i64 (wrap64 ((Int.tmod (wrap64 ((wrap64 ((wrap64 ((wrap64 (12 * t160104)) + t160105)) - 1)) + (wrap64 (x10_9 * (wrap64 ((wrap64 (12 * a1_0)) + a1_1)))))) 12) + 1)))).heap[gb160107]? = some (.cells #[.int .i64 (wrap64 (Int.tdiv (wrap64 ((wrap64 ((wrap64 ((wrap64 (12 * t160104)) + t160105)) - 1)) + (wrap64 (x10_9 * (wrap64 ((wrap64 (12 * a1_0)) + a1_1)))))) 12)), .int .i64 (wrap64 ((Int.tmod (wrap64 ((wrap64 ((wrap64 ((wrap64 (12 * t160104)) + t160105)) - 1)) + (wrap64 (x10_9 * (wrap64 ((wrap64 (12 * a1_0)) + a1_1)))))) 12) + 1)), .int .i64 t160106] 23 (0, 0))) := ⟨by (with_reducible repeat (first | refine blk_drewN ?_ _ | refine blk_drew ?_ | refine blk_alloc ?_ _)); refine blk_put (cs := #[.int .i64 (wrap64 (Int.tdiv (wrap64 ((wrap64 ((wrap64 ((wrap64 (12 * t160104)) + t160105)) - 1)) + (wrap64 (x10_9 * (wrap64 ((wrap64 (12 * a1_0)) + a1_1)))))) 12)), .int .i64 t160105, .int .i64 t160106]) ?_ 1 _ rfl; (with_reducible repeat (first | refine blk_drewN ?_ _ | refine blk_drew ?_ | refine blk_alloc ?_ _)); refine blk_put (cs := #[.int .i64 t160104, .int .i64 t160105, .int .i64 t160106]) ?_ 0 _ rfl; (with_reducible repeat (first | refine blk_drewN ?_ _ | refine blk_drew ?_ | refine blk_alloc ?_ _)); exact BK160107.out⟩
                        have n2_ : Aside0 (Below w.heap.size w ((wc.setCell ⟨gb160107, 0, none⟩ (.int .i64 (wrap64 (Int.tdiv (wrap64 ((wrap64 ((wrap64 ((wrap64 (12 * t160104)) + t160105)) - 1)) + (wrap64 (x10_9 * (wrap64 ((wrap64 (12 * a1_0)) + a1_1)))))) 12)))).setCell ⟨gb160107, 1, none⟩ (.int .i64 (wrap64 ((Int.tmod (wrap64 ((wrap64 ((wrap64 ((wrap64 (12 * t160104)) + t160105)) - 1)) + (wrap64 (x10_9 * (wrap64 ((wrap64 (12 * a1_0)) + a1_1)))))) 12) + 1))))) := ⟨by repeat (first | (with_reducible first | exact HB.out | apply below_alloc | apply pw_below_drewN | apply below_drew1 | refine below_set ?_ GE160101.out | refine below_set ?_ GE160107.out) | exact HB.out)⟩
                        (try clear BK160101)
                        (try clear BK160107)
                        (try clear HB)
                        generalize ((wc.setCell ⟨gb160107, 0, none⟩ (.int .i64 (wrap64 (Int.tdiv (wrap64 ((wrap64 ((wrap64 ((wrap64 (12 * t160104)) + t160105)) - 1)) + (wrap64 (x10_9 * (wrap64 ((wrap64 (12 * a1_0)) + a1_1)))))) 12)))).setCell ⟨gb160107, 1, none⟩ (.int .i64 (wrap64 ((Int.tmod (wrap64 ((wrap64 ((wrap64 ((wrap64 (12 * t160104)) + t160105)) - 1)) + (wrap64 (x10_9 * (wrap64 ((wrap64 (12 * a1_0)) + a1_1)))))) 12) + 1)))) = w48 at n0_ n1_ n2_ ⊢
                        have BK160101 := n0_
                        have BK160107 := n1_
                        have HB := n2_
                        clear n0_ n1_ n2_
                        have n0_ := Aside0.mk (blk_drew BK160101.out)
                        have n1_ := Aside0.mk (blk_drew BK160107.out)
                        have n2_ := Aside0.mk (below_drew1 HB.out)
                        clear BK160101
                        clear BK160107
                        clear HB
                        have BK160101 := n0_
                        have BK160107 := n1_
                        have HB := n2_
                        clear n0_ n1_ n2_
                        refine start_ (n := 10) (S := fun w' => w'.cell? ⟨gb160107, 0, none⟩ = some (.int .i64 (wrap64 (Int.tdiv (wrap64 ((wrap64 ((wrap64 ((wrap64 (12 * t160104)) + t160105)) - 1)) + (wrap64 (x10_9 * (wrap64 ((wrap64 (12 * a1_0)) + a1_1)))))) 12))) ∧ w'.cell? ⟨gb160107, 1, none⟩ = some (.int .i64 (wrap64 ((Int.tmod (wrap64 ((wrap64 ((wrap64 ((wrap64 (12 * t160104)) + t160105)) - 1)) + (wrap64 (x10_9 * (wrap64 ((wrap64 (12 * a1_0)) + a1_1)))))) 12) + 1))) ∧ w'.cell? ⟨gb160107, 2, none⟩ = some (.int .i64 t160106)) (ds := [9]) #[false, false, false, false, false, false, false, false, false, false] (by kernel_rfl) rfl rfl ⟨(blk_cell BK160107.out 0).trans rfl, (blk_cell BK160107.out 1).trans rfl, (blk_cell BK160107.out 2).trans rfl⟩ (fun hHeld => ?_); refine with_tabW cal_AddSpan.tab14 cal_AddSpan.bits14 (fun HT_ HW_ => ?_)
                        generalize w48.drew = w49 at BK160101 BK160107 HB hHeld ⊢
                        refine pure_ (i := 0) (N := some 62) (v := ?_) (a' := ?_) #[true, false, false, false, false, false, false, false, false, false] rfl rfl (any_of HT_.out (by kernel_rfl)) (fun _ _ _ h => h) (Or.inl ⟨by rfl, ?_⟩) ?_ ?_
                        rotate_left
                        · intro w'
                          go_simp
                          with_reducible rfl
                        rotate_left
                        · simp only [Act.put, List.setIfInBounds_toArray, List.set_cons_zero, List.set_cons_succ, i64_w, i32_w]
                          rfl
                        refine pure_ (i := 2) (N := some 64) (v := ?_) (a' := ?_) #[true, false, true, false, false, false, false, false, false, false] rfl rfl (any_of HT_.out (by kernel_rfl)) (fun _ _ _ h => h) (Or.inl ⟨by rfl, ?_⟩) ?_ ?_
                        rotate_left
                        · intro w'
                          go_simp
                          with_reducible rfl
                        rotate_left
                        · simp only [Act.put, List.setIfInBounds_toArray, List.set_cons_zero, List.set_cons_succ, i64_w, i32_w]
                          rfl
                        refine pure_ (i := 4) (N := some 66) (v := ?_) (a' := ?_) #[true, false, true, false, true, false, false, false, false, false] rfl rfl (any_of HT_.out (by kernel_rfl)) (fun _ _ _ h => h) (Or.inl ⟨by rfl, ?_⟩) ?_ ?_
                        rotate_left
                        · intro w'
                          go_simp
                          with_reducible rfl
                        rotate_left
                        · simp only [Act.put, List.setIfInBounds_toArray, List.set_cons_zero, List.set_cons_succ, i64_w, i32_w]
                          rfl
                        refine take_ (i := 1) (N := some 63) (v := ?_) (a' := ?_) #[true, true, true, false, true, false, false, false, false, false] rfl rfl (take_ofW HT_.out HW_.out (by kernel_rfl)) (fun _ _ _ h => h) (Or.inl ⟨by rfl, ?_⟩) hHeld ?_ ?_
                        rotate_left
                        · rintro w' ⟨s0, s1, s2⟩
                          go_simp
                          with_reducible rfl
                        rotate_left
                        · simp only [Act.put, List.setIfInBounds_toArray, List.set_cons_zero, List.set_cons_succ, i64_w, i32_w]
                          rfl
                        refine take_ (i := 3) (N := some 65) (v := ?_) (a' := ?_) #[true, true, true, true, true, false, false, false, false, false] rfl rfl (take_ofW HT_.out HW_.out (by kernel_rfl)) (fun _ _ _ h => h) (Or.inl ⟨by rfl, ?_⟩) hHeld ?_ ?_
                        rotate_left
                        · rintro w' ⟨s0, s1, s2⟩
                          go_simp
                          with_reducible rfl
                        rotate_left
                        · simp only [Act.put, List.setIfInBounds_toArray, List.set_cons_zero, List.set_cons_succ, i64_w, i32_w]
                          rfl
                        refine take_ (i := 5) (N := some 67) (v := ?_) (a' := ?_) #[true, true, true, true, true, true, false, false, false, false] rfl rfl (take_ofW HT_.out HW_.out (by kernel_rfl)) (fun _ _ _ h => h) (Or.inl ⟨by rfl, ?_⟩) hHeld ?_ ?_
                        rotate_left
                        · rintro w' ⟨s0, s1, s2⟩
                          go_simp
                          with_reducible rfl
                        rotate_left
                        · simp only [Act.put, List.setIfInBounds_toArray, List.set_cons_zero, List.set_cons_succ, i64_w, i32_w]
                          rfl
                        refine one_ (i := 6) (N := some 68) #[true, true, true, true, true, true, true, false, false, false] rfl rfl (one_of HT_.out (by kernel_rfl)) (by decide) (fun K hK => ?_)
                        refine goes_ Tryd.func36 (by kernel_rfl) rfl #[.int .i64 (wrap64 (Int.tdiv (wrap64 ((wrap64 ((wrap64 ((wrap64 (12 * t160104)) + t160105)) - 1)) + (wrap64 (x10_9 * (wrap64 ((wrap64 (12 * a1_0)) + a1_1)))))) 12)), .int .i64 (wrap64 ((Int.tmod (wrap64 ((wrap64 ((wrap64 ((wrap64 (12 * t160104)) + t160105)) - 1)) + (wrap64 (x10_9 * (wrap64 ((wrap64 (12 * a1_0)) + a1_1)))))) 12) + 1))] (by rfl) rfl rfl (by (try simp only [List.map_toArray, List.map_cons, List.map_nil]); first | done | rfl | (simp only [List.length_drop, List.length_take]; rfl)) ?_
                        with_reducible refine (cal_daysOf.calls (wrap64 (Int.tdiv (wrap64 ((wrap64 ((wrap64 ((wrap64 (12 * t160104)) + t160105)) - 1)) + (wrap64 (x10_9 * (wrap64 ((wrap64 (12 * a1_0)) + a1_1)))))) 12)) (wrap64 ((Int.tmod (wrap64 ((wrap64 ((wrap64 ((wrap64 (12 * t160104)) + t160105)) - 1)) + (wrap64 (x10_9 * (wrap64 ((wrap64 (12 * a1_0)) + a1_1)))))) 12) + 1)) t160108 _ ?side1 A23.out).mono ?_
                        (case side1 => refine GlobOk.below HG.out ?_; repeat (first | (with_reducible first | exact HB.out | apply below_alloc | apply pw_below_drewN | apply below_drew1 | refine below_set ?_ GE160101.out | refine below_set ?_ GE160107.out) | exact HB.out))
                        rintro e w50 ⟨rfl, hb⟩
                        refine ⟨_, rfl, ?_⟩
                        have n0_ := Aside0.mk (blk_below (g := gb160101) (o := .cells #[.int .i64 a1_0, .int .i64 a1_1, .int .i64 a1_2, .int .i64 a1_3, .int .i64 a1_4, .int .i64 a1_5, .int .i64 a1_6] 30 (0, 0)) (by (with_reducible repeat (first | refine blk_drewN ?_ _ | refine blk_drew ?_ | refine blk_alloc ?_ _)); exact BK160101.out) hb)
                        have n1_ := Aside0.mk (blk_below (g := gb160107) (o := .cells #[.int .i64 (wrap64 (Int.tdiv (wrap64 ((wrap64 ((wrap64 ((wrap64 (12 * t160104)) + t160105)) - 1)) + (wrap64 (x10_9 * (wrap64 ((wrap64 (12 * a1_0)) + a1_1)))))) 12)), .int .i64 (wrap64 ((Int.tmod (wrap64 ((wrap64 ((wrap64 ((wrap64 (12 * t160104)) + t160105)) - 1)) + (wrap64 (x10_9 * (wrap64 ((wrap64 (12 * a1_0)) + a1_1)))))) 12) + 1)), .int .i64 t160106] 23 (0, 0)) (by (with_reducible repeat (first | refine blk_drewN ?_ _ | refine blk_drew ?_ | refine blk_alloc ?_ _)); exact BK160107.out) hb)
                        have n2_ := Aside0.mk (below_step (by repeat (first | (with_reducible first | exact HB.out | apply below_alloc | apply pw_below_drewN | apply below_drew1 | refine below_set ?_ GE160101.out | refine below_set ?_ GE160107.out) | exact HB.out)) hb)
                        clear BK160101
                        clear BK160107
                        clear HB
                        have BK160101 := n0_
                        have BK160107 := n1_
                        have HB := n2_
                        clear n0_ n1_ n2_
                        (try clear hb)
                        (try clear hb2)
                        (try clear hk)
                        (try clear hi)
                        refine hK.out _ _ ⟨(blk_cell BK160107.out 0).trans rfl, (blk_cell BK160107.out 1).trans rfl, (blk_cell BK160107.out 2).trans rfl⟩ (fun hHeld => ?_)
                        clear hK K
                        refine norm_ (a' := ?_) ?_ ?_
                        rotate_left
                        · show Act.put _ (some 68) _ = _
                          simp only [Act.put, List.setIfInBounds_toArray, List.set_cons_zero, List.set_cons_succ, i64_w, i32_w]
                          rfl
                        refine pure_ (i := 7) (N := some 69) (v := ?_) (a' := ?_) #[true, true, true, true, true, true, true, true, false, false] rfl rfl (any_of HT_.out (by kernel_rfl)) (fun _ _ _ h => h) (Or.inl ⟨by rfl, ?_⟩) ?_ ?_
                        rotate_left
                        · intro w'
                          go_simp
                          with_reducible rfl
                        rotate_left
                        · simp only [Act.put, List.setIfInBounds_toArray, List.set_cons_zero, List.set_cons_succ, i64_w, i32_w]
                          rfl
                        refine pure_ (i := 8) (N := some 70) (v := ?_) (a' := ?_) #[true, true, true, true, true, true, true, true, true, false] rfl rfl (any_of HT_.out (by kernel_rfl)) (fun _ _ _ h => h) (Or.inl ⟨by rfl, ?_⟩) ?_ ?_
                        rotate_left
                        · intro w'
                          go_simp
                          with_reducible rfl
                        rotate_left
                        · simp only [Act.put, List.setIfInBounds_toArray, List.set_cons_zero, List.set_cons_succ, i64_w, i32_w]
                          rfl
                        refine last_ (i := 9) (N := none) #[true, true, true, true, true, true, true, true, true, true] rfl rfl (one_of HT_.out (by kernel_rfl)) (by decide) (fun K hK => ?_)
                        have hs51 : w50.cell? ⟨gb160107, 2, none⟩ = some (.int .i64 t160106) := (blk_cell BK160107.out 2).trans rfl
                        have hfs51 := blk_frozen BK160107.out 2
                        have hns51_0 := NB160101_160107.out
                        have hms51_0 := NB160107_160101.out
                        refine skip_ (w1 := ?_) (by rfl) rfl ?_ ?_
                        rotate_left
                        · go_simp
                          rfl
                        refine hK.out _ _ ?_
                        clear hK K
                        refine done_ (done_of HT_.out (by kernel_rfl)) ?_
                        have hcz52_0 : w50.cell? ⟨gb160107, 0, none⟩ = some (.int .i64 (wrap64 (Int.tdiv (wrap64 ((wrap64 ((wrap64 ((wrap64 (12 * t160104)) + t160105)) - 1)) + (wrap64 (x10_9 * (wrap64 ((wrap64 (12 * a1_0)) + a1_1)))))) 12))) := (blk_cell BK160107.out 0).trans rfl
                        have hcz52_1 : w50.cell? ⟨gb160107, 1, none⟩ = some (.int .i64 (wrap64 ((Int.tmod (wrap64 ((wrap64 ((wrap64 ((wrap64 (12 * t160104)) + t160105)) - 1)) + (wrap64 (x10_9 * (wrap64 ((wrap64 (12 * a1_0)) + a1_1)))))) 12) + 1))) := (blk_cell BK160107.out 1).trans rfl
                        have hcz52_2 : w50.cell? ⟨gb160107, 2, none⟩ = some (.int .i64 t160106) := (blk_cell BK160107.out 2).trans rfl
                        have hfz52_0 := blk_frozen BK160107.out 0
                        have hfz52_1 := blk_frozen BK160107.out 1
                        have hfz52_2 := blk_frozen BK160107.out 2
                        try go_wp2_with (first | ((with_reducible refine gate_callee (f := 34) rfl ?_); refine goesL_ (some 72) rfl rfl Tryd.func34 (by kernel_rfl) rfl #[.agg #[.int .i64 (wrap64 (Int.tdiv (wrap64 ((wrap64 ((wrap64 ((wrap64 (12 * t160104)) + t160105)) - 1)) + (wrap64 (x10_9 * (wrap64 ((wrap64 (12 * a1_0)) + a1_1)))))) 12)), .int .i64 (wrap64 ((Int.tmod (wrap64 ((wrap64 ((wrap64 ((wrap64 (12 * t160104)) + t160105)) - 1)) + (wrap64 (x10_9 * (wrap64 ((wrap64 (12 * a1_0)) + a1_1)))))) 12) + 1)), .int .i64 ji24]] rfl (by (try simp only [List.map_toArray, List.map_cons, List.map_nil]); first | done | (simp only [hji24]; rfl) | rfl | (simp only [List.length_drop, List.length_take]; rfl)) ?_; (with_reducible refine (cal_number.calls (wrap64 (Int.tdiv (wrap64 ((wrap64 ((wrap64 ((wrap64 (12 * t160104)) + t160105)) - 1)) + (wrap64 (x10_9 * (wrap64 ((wrap64 (12 * a1_0)) + a1_1)))))) 12)) (wrap64 ((Int.tmod (wrap64 ((wrap64 ((wrap64 ((wrap64 (12 * t160104)) + t160105)) - 1)) + (wrap64 (x10_9 * (wrap64 ((wrap64 (12 * a1_0)) + a1_1)))))) 12) + 1)) ji24 t160109 _ ?side1 A25.out).mono ?_); (case side1 => refine GlobOk.below HG.out ?_; repeat (first | (with_reducible first | exact HB.out | apply below_alloc | apply pw_below_drewN | apply below_drew1 | refine below_set ?_ GE160101.out | refine below_set ?_ GE160107.out) | exact HB.out)); rintro e w53 ⟨rfl, hb⟩; refine ⟨_, rfl, ?_⟩; have n0_ := Aside0.mk (blk_below (g := gb160101) (o := .cells #[.int .i64 a1_0, .int .i64 a1_1, .int .i64 a1_2, .int .i64 a1_3, .int .i64 a1_4, .int .i64 a1_5, .int .i64 a1_6] 30 (0, 0)) (by (with_reducible repeat (first | refine blk_drewN ?_ _ | refine blk_drew ?_ | refine blk_alloc ?_ _)); refine blk_far ?_ NB160101_160107.out _; (with_reducible repeat (first | refine blk_drewN ?_ _ | refine blk_drew ?_ | refine blk_alloc ?_ _)); exact BK160101.out) hb); have n1_ := Aside0.mk (blk_below (g := gb160107) (o := .cells #[.int .i64 (wrap64 (Int.tdiv (wrap64 ((wrap64 ((wrap64 ((wrap64 (12 * t160104)) + t160105)) - 1)) + (wrap64 (x10_9 * (wrap64 ((wrap64 (12 * a1_0)) + a1_1)))))) 12)), .int .i64 (wrap64 ((Int.tmod (wrap64 ((wrap64 ((wrap64 ((wrap64 (12 * t160104)) + t160105)) - 1)) + (wrap64 (x10_9 * (wrap64 ((wrap64 (12 * a1_0)) + a1_1)))))) 12) + 1)), .int .i64 ji24] 23 (0, 0)) (by (with_reducible repeat (first | refine blk_drewN ?_ _ | refine blk_drew ?_ | refine blk_alloc ?_ _)); refine blk_put (cs := #[.int .i64 (wrap64 (Int.tdiv (wrap64 ((wrap64 ((wrap64 ((wrap64 (12 * t160104)) + t160105)) - 1)) + (wrap64 (x10_9 * (wrap64 ((wrap64 (12 * a1_0)) + a1_1)))))) 12)), .int .i64 (wrap64 ((Int.tmod (wrap64 ((wrap64 ((wrap64 ((wrap64 (12 * t160104)) + t160105)) - 1)) + (wrap64 (x10_9 * (wrap64 ((wrap64 (12 * a1_0)) + a1_1)))))) 12) + 1)), .int .i64 t160106]) ?_ 2 _ rfl; (with_reducible repeat (first | refine blk_drewN ?_ _ | refine blk_drew ?_ | refine blk_alloc ?_ _)); exact BK160107.out) hb); have n2_ := Aside0.mk (below_step (by repeat (first | (with_reducible first | exact HB.out | apply below_alloc | apply pw_below_drewN | apply below_drew1 | refine below_set ?_ GE160101.out | refine below_set ?_ GE160107.out) | exact HB.out)) hb); clear BK160101; clear BK160107; clear HB; have BK160101 := n0_; have BK160107 := n1_; have HB := n2_; clear n0_ n1_ n2_; (try clear hb); (try clear hb2); (try clear hk); (try clear hi); have hcz54_0 : w53.cell? ⟨gb160101, 0, none⟩ = some (.int .i64 a1_0) := (blk_cell BK160101.out 0).trans rfl; have hcz54_1 : w53.cell? ⟨gb160101, 1, none⟩ = some (.int .i64 a1_1) := (blk_cell BK160101.out 1).trans rfl; have hcz54_2 : w53.cell? ⟨gb160101, 2, none⟩ = some (.int .i64 a1_2) := (blk_cell BK160101.out 2).trans rfl; have hcz54_3 : w53.cell? ⟨gb160101, 3, none⟩ = some (.int .i64 a1_3) := (blk_cell BK160101.out 3).trans rfl; have hcz54_4 : w53.cell? ⟨gb160101, 4, none⟩ = some (.int .i64 a1_4) := (blk_cell BK160101.out 4).trans rfl; have hcz54_5 : w53.cell? ⟨gb160101, 5, none⟩ = some (.int .i64 a1_5) := (blk_cell BK160101.out 5).trans rfl; have hcz54_6 : w53.cell? ⟨gb160101, 6, none⟩ = some (.int .i64 a1_6) := (blk_cell BK160101.out 6).trans rfl; have hfz54_0 := blk_frozen BK160101.out 0; have hfz54_1 := blk_frozen BK160101.out 1; have hfz54_2 := blk_frozen BK160101.out 2; have hfz54_3 := blk_frozen BK160101.out 3; have hfz54_4 := blk_frozen BK160101.out 4; have hfz54_5 := blk_frozen BK160101.out 5; have hfz54_6 := blk_frozen BK160101.out 6))
                        go_ret2
                        exact ⟨by first | rfl | (simp [errW_none, errW_some] <;> rfl) | (simp only [← hji24]; first | rfl | (simp [errW_none, errW_some] <;> rfl)) | (simp [*, errW_none, errW_some] <;> rfl), by repeat (first | (with_reducible first | exact HB.out | apply below_alloc | apply pw_below_drewN | apply below_drew1 | refine below_set ?_ GE160101.out | refine below_set ?_ GE160107.out) | exact HB.out)⟩
        · rw [if_neg c9] at H
          have c9b0 : (t160103 == 0) = false := beq_eq_false_iff_ne.mpr c9
          have c9b1 : (t160103 != 0) = true := bne_iff_ne.mpr c9
          simp only [Option.some.injEq, Prod.mk.injEq] at H
          obtain ⟨rfl, rfl⟩ := H
          have hcz55_0 : wc.cell? ⟨gb160101, 0, none⟩ = some (.int .i64 a1_0) := (blk_cell BK160101.out 0).trans rfl
          have hcz55_1 : wc.cell? ⟨gb160101, 1, none⟩ = some (.int .i64 a1_1) := (blk_cell BK160101.out 1).trans rfl
          have hcz55_2 : wc.cell? ⟨gb160101, 2, none⟩ = some (.int .i64 a1_2) := (blk_cell BK160101.out 2).trans rfl
          have hcz55_3 : wc.cell? ⟨gb160101, 3, none⟩ = some (.int .i64 a1_3) := (blk_cell BK160101.out 3).trans rfl
          have hcz55_4 : wc.cell? ⟨gb160101, 4, none⟩ = some (.int .i64 a1_4) := (blk_cell BK160101.out 4).trans rfl
          have hcz55_5 : wc.cell? ⟨gb160101, 5, none⟩ = some (.int .i64 a1_5) := (blk_cell BK160101.out 5).trans rfl
          have hcz55_6 : wc.cell? ⟨gb160101, 6, none⟩ = some (.int .i64 a1_6) := (blk_cell BK160101.out 6).trans rfl
          have hfz55_0 := blk_frozen BK160101.out 0
          have hfz55_1 := blk_frozen BK160101.out 1
          have hfz55_2 := blk_frozen BK160101.out 2
          have hfz55_3 := blk_frozen BK160101.out 3
          have hfz55_4 := blk_frozen BK160101.out 4
          have hfz55_5 := blk_frozen BK160101.out 5
          have hfz55_6 := blk_frozen BK160101.out 6
          go_wp2_with (first | ((with_reducible refine gate_callee (f := 32) rfl ?_); refine goesL_ (some 22) rfl rfl Tryd.func32 (by kernel_rfl) rfl #[.agg #[.int .i64 a1_0, .int .i64 a1_1, .int .i64 a1_2, .int .i64 a1_3, .int .i64 a1_4, .int .i64 a1_5, .int .i64 a1_6]] rfl (by (try simp only [List.map_toArray, List.map_cons, List.map_nil]); first | done | rfl | (simp only [List.length_drop, List.length_take]; rfl)) ?_; (with_reducible refine (cal_PrintSpan.calls a1_0 a1_1 a1_2 a1_3 a1_4 a1_5 a1_6 t160102 t160103 _ A8.out).mono ?_); rintro e w56 ⟨rfl, hb⟩; refine ⟨_, rfl, ?_⟩; have n0_ := Aside0.mk (blk_below (g := gb160101) (o := .cells #[.int .i64 a1_0, .int .i64 a1_1, .int .i64 a1_2, .int .i64 a1_3, .int .i64 a1_4, .int .i64 a1_5, .int .i64 a1_6] 30 (0, 0)) (by (with_reducible repeat (first | refine blk_drewN ?_ _ | refine blk_drew ?_ | refine blk_alloc ?_ _)); exact BK160101.out) hb); have n1_ := Aside0.mk (below_step (by repeat (first | (with_reducible first | exact HB.out | apply below_alloc | apply pw_below_drewN | apply below_drew1 | refine below_set ?_ GE160101.out) | exact HB.out)) hb); clear BK160101; clear HB; have BK160101 := n0_; have HB := n1_; clear n0_ n1_; (try clear hb); (try clear hb2); (try clear hk); (try clear hi)))
          go_ret2
          exact ⟨by first | rfl | (simp [errW_none, errW_some] <;> rfl) | (simp [*, errW_none, errW_some] <;> rfl), by repeat (first | (with_reducible first | exact HB.out | apply below_alloc | apply pw_below_drewN | apply below_drew1 | refine below_set ?_ GE160101.out) | exact HB.out)⟩

end Go.Proofs.YtiklakkkgmilnaaDoor.GC
