-- written by a program (gp.py over the kit's print) for this claim
import Derived.Test.YtiklakkkgmilnaaDoorGCx0
import Derived.Test.YtiklakkkgmilnaaDoorGCxf41
import Derived.Test.YtiklakkkgmilnaaDoorGCxf48
import Derived.Test.YtiklakkkgmilnaaDoorGCxf74
import Derived.Test.YtiklakkkgmilnaaDoorGCxf75
namespace Go.Proofs.YtiklakkkgmilnaaDoor.GC
open Go.RowKit Go.Proofs.YtiklakkkgmilnaaDoorW.PrintWords Go.Proofs.YtiklakkkgmilnaaDoorW.PrintLast Go.Proofs.YtiklakkkgmilnaaDoor.Ext Go.Proofs.YtiklakkkgmilnaaDoor.PCal
attribute [local go_sem] max2_int min2_int max_two min_two   -- for this text alone
set_option linter.unusedVariables false
set_option linter.unusedSimpArgs false

/-! ### larderref03_PrintDate: function 39 -/
def larderref03_PrintDate.j0 : Nat → Int → Int → Bool → Int → Int → Int → Option (ByteArray × Int)
  | 0, _, _, _, _, _, _ => none
  | k + 1, x1, x6, x23, x390102000, x390102001, x390102002 => if x23 = true then (some ((⟨#[]⟩ : ByteArray), 2)) else ((larderref03_week.f k x6).bind fun bt390104 => ((larderref03_pad.f k x390102000 4).bind fun t390108 => (if x1 = 0 then (if t390108.size + 1 ≤ 9223372036854775807 then ((larderref03_pad.f k x390102001 2).bind fun t390109 => (if t390108.size + 1 + t390109.size ≤ 9223372036854775807 then (if t390108.size + 1 + t390109.size + 1 ≤ 9223372036854775807 then ((larderref03_pad.f k x390102002 2).bind fun t390110 => (if t390108.size + 1 + t390109.size + 1 + t390110.size ≤ 9223372036854775807 then (some ((((t390108 ++ (⟨#[45]⟩ : ByteArray)) ++ t390109) ++ (⟨#[45]⟩ : ByteArray)) ++ t390110, 0)) else (none))) else (none)) else (none))) else (none)) else (if x1 = 1 then ((larderref03_pad.f k x390102001 2).bind fun t390111 => (if t390108.size + t390111.size ≤ 9223372036854775807 then ((larderref03_pad.f k x390102002 2).bind fun t390112 => (if t390108.size + t390111.size + t390112.size ≤ 9223372036854775807 then (some ((t390108 ++ t390111) ++ t390112, 0)) else (none))) else (none))) else (if x1 = 2 then (if t390108.size + 1 ≤ 9223372036854775807 then ((larderref03_ahead.f x390102000).bind fun t390113 => ((larderref03_pad.f k (wrap64 ((wrap64 (x6 - t390113)) + 1)) 3).bind fun t390114 => (if t390108.size + 1 + t390114.size ≤ 9223372036854775807 then (some ((t390108 ++ (⟨#[45]⟩ : ByteArray)) ++ t390114, 0)) else (none)))) else (none)) else (if x1 = 3 then ((larderref03_ahead.f x390102000).bind fun t390115 => ((larderref03_pad.f k (wrap64 ((wrap64 (x6 - t390115)) + 1)) 3).bind fun t390116 => (if t390108.size + t390116.size ≤ 9223372036854775807 then (some (t390108 ++ t390116, 0)) else (none)))) else (if bt390104.1 < 0 then (some ((⟨#[]⟩ : ByteArray), 35)) else (if x1 = 4 then ((larderref03_pad.f k bt390104.1 4).bind fun t390117 => (if t390117.size + 2 ≤ 9223372036854775807 then ((larderref03_pad.f k bt390104.2.1 2).bind fun t390118 => (if t390117.size + 2 + t390118.size ≤ 9223372036854775807 then (if t390117.size + 2 + t390118.size + 1 ≤ 9223372036854775807 then ((larderref03_pad.f k bt390104.2.2 1).bind fun t390119 => (if t390117.size + 2 + t390118.size + 1 + t390119.size ≤ 9223372036854775807 then (some ((((t390117 ++ (⟨#[45, 87]⟩ : ByteArray)) ++ t390118) ++ (⟨#[45]⟩ : ByteArray)) ++ t390119, 0)) else (none))) else (none)) else (none))) else (none))) else ((larderref03_pad.f k bt390104.1 4).bind fun t390120 => (if t390120.size + 1 ≤ 9223372036854775807 then ((larderref03_pad.f k bt390104.2.1 2).bind fun t390121 => (if t390120.size + 1 + t390121.size ≤ 9223372036854775807 then ((larderref03_pad.f k bt390104.2.2 1).bind fun t390122 => (if t390120.size + 1 + t390121.size + t390122.size ≤ 9223372036854775807 then (some (((t390120 ++ (⟨#[87]⟩ : ByteArray)) ++ t390121) ++ t390122, 0)) else (none))) else (none))) else (none)))))))))))
def larderref03_PrintDate.f (k : Nat) (a0_0 : Int) (a0_1 : Int) (a0_2 : Int) (a1 : Int) : Option (ByteArray × Int) := (larderref03_Days.f k a0_0 a0_1 a0_2).bind fun bt390102 => (if bt390102.2 = 0 then (if a1 < 0 then (larderref03_PrintDate.j0 k a1 bt390102.1 true a0_0 a0_1 a0_2) else (larderref03_PrintDate.j0 k a1 bt390102.1 (decide (a1 > 5)) a0_0 a0_1 a0_2)) else (some ((⟨#[]⟩ : ByteArray), bt390102.2)))
theorem larderref03_PrintDate.mono_l : ∀ k, (∀ y0 y1 y2 y3 y4 y5, LeO (larderref03_PrintDate.j0 k y0 y1 y2 y3 y4 y5) (larderref03_PrintDate.j0 (k + 1) y0 y1 y2 y3 y4 y5))
  | 0 => fun _ _ _ _ _ _ r h => by simp [larderref03_PrintDate.j0] at h
  | k + 1 => by
    have ih0 := larderref03_PrintDate.mono_l k
    · intro y0 y1 y2 y3 y4 y5
      unfold larderref03_PrintDate.j0
      repeat' first
      | (with_reducible exact ih0 _ _ _ _ _ _)
      | (with_reducible exact larderref03_Days.mono _ _ _ _)
      | (with_reducible exact larderref03_pad.mono _ _ _)
      | (with_reducible exact larderref03_week.mono _ _)
      | (with_reducible exact LeO.refl _)
      | (with_reducible exact LeO.none _)
      | (with_reducible refine LeO.ite ?_ ?_)
      | (with_reducible refine LeO.bind ?_ (fun _ => ?_))
      | exact ih0 _ _ _ _ _ _
      | exact larderref03_Days.mono _ _ _ _
      | exact larderref03_pad.mono _ _ _
      | exact larderref03_week.mono _ _
      | exact LeO.none _
      | refine LeO.ite ?_ ?_
      | refine LeO.bind ?_ (fun _ => ?_)
theorem larderref03_PrintDate.mono : ∀ a0 a1 a2 a3 k, LeO (larderref03_PrintDate.f k a0 a1 a2 a3) (larderref03_PrintDate.f (k + 1) a0 a1 a2 a3) := by
  intro a0 a1 a2 a3 k
  have ih0 := larderref03_PrintDate.mono_l k
  unfold larderref03_PrintDate.f
  repeat' first
      | (with_reducible exact ih0 _ _ _ _ _ _)
      | (with_reducible exact larderref03_Days.mono _ _ _ _)
      | (with_reducible exact larderref03_pad.mono _ _ _)
      | (with_reducible exact larderref03_week.mono _ _)
      | (with_reducible exact LeO.refl _)
      | (with_reducible exact LeO.none _)
      | (with_reducible refine LeO.ite ?_ ?_)
      | (with_reducible refine LeO.bind ?_ (fun _ => ?_))
      | exact ih0 _ _ _ _ _ _
      | exact larderref03_Days.mono _ _ _ _
      | exact larderref03_pad.mono _ _ _
      | exact larderref03_week.mono _ _
      | exact LeO.none _
      | refine LeO.ite ?_ ?_
      | refine LeO.bind ?_ (fun _ => ?_)
def larderref03_PrintDate.T10 : Bool × List (List Nat × List Nat) := (true, [([], []), ([0], [0]), ([], []), ([2], [2]), ([3], [3]), ([1, 4], [1, 4]), ([5], [5]), ([], []), ([7], [7]), ([8, 4], [8]), ([6, 9], [6, 9]), ([10, 9, 0, 1, 2, 3, 4, 5, 6, 7, 8, 9, 10], [10]), ([11, 0, 1, 2, 3, 4, 5, 6, 7, 8, 9, 10, 11], [])])
def larderref03_PrintDate.B10 : List Nat := [0, 1, 0, 4, 12, 31, 63, 0, 128, 412, 1023, 2047, 4095]
theorem larderref03_PrintDate.tab10 : rtab .any (opsOf Tryd.f39 10) = larderref03_PrintDate.T10 := by kernel_rfl
theorem larderref03_PrintDate.bits10 : waitsOk larderref03_PrintDate.T10.2 larderref03_PrintDate.B10 = true := by kernel_rfl
def larderref03_PrintDate.T12 : Bool × List (List Nat × List Nat) := (true, [([], []), ([], []), ([1], [1]), ([2], [2]), ([0, 3], [0, 3]), ([], []), ([5], [5]), ([6, 3], [6]), ([4, 7], [4, 7]), ([8, 7, 0, 1, 2, 3, 4, 5, 6, 7, 8], [8]), ([9, 0, 1, 2, 3, 4, 5, 6, 7, 8, 9], [])])
def larderref03_PrintDate.B12 : List Nat := [0, 0, 2, 6, 15, 0, 32, 110, 255, 511, 1023]
theorem larderref03_PrintDate.tab12 : rtab .any (opsOf Tryd.f39 12) = larderref03_PrintDate.T12 := by kernel_rfl
theorem larderref03_PrintDate.bits12 : waitsOk larderref03_PrintDate.T12.2 larderref03_PrintDate.B12 = true := by kernel_rfl
def larderref03_PrintDate.T20 : Bool × List (List Nat × List Nat) := (true, [([], []), ([0], [0]), ([1], [1]), ([2], [2]), ([], []), ([4], [4]), ([5, 2], [5]), ([3, 6], [3, 6]), ([7], [7]), ([], []), ([9], [9]), ([10, 6], [10]), ([8, 11], [8, 11]), ([12, 11, 0, 1, 2, 3, 4, 5, 6, 7, 8, 9, 10, 11, 12], [12]), ([13, 0, 1, 2, 3, 4, 5, 6, 7, 8, 9, 10, 11, 12, 13], [])])
def larderref03_PrintDate.B20 : List Nat := [0, 1, 3, 7, 0, 16, 55, 127, 255, 0, 512, 1655, 4095, 8191, 16383]
theorem larderref03_PrintDate.tab20 : rtab .any (opsOf Tryd.f39 20) = larderref03_PrintDate.T20 := by kernel_rfl
theorem larderref03_PrintDate.bits20 : waitsOk larderref03_PrintDate.T20.2 larderref03_PrintDate.B20 = true := by kernel_rfl
def larderref03_PrintDate.T21 : Bool × List (List Nat × List Nat) := (true, [([], []), ([0], [0]), ([1], [1]), ([2], [2]), ([], []), ([4], [4]), ([5, 2], [5]), ([3, 6], [3, 6]), ([], []), ([8], [8]), ([9, 6], [9]), ([7, 10], [7, 10]), ([11, 10, 0, 1, 2, 3, 4, 5, 6, 7, 8, 9, 10, 11], [11]), ([12, 0, 1, 2, 3, 4, 5, 6, 7, 8, 9, 10, 11, 12], [])])
def larderref03_PrintDate.B21 : List Nat := [0, 1, 3, 7, 0, 16, 55, 127, 0, 256, 887, 2047, 4095, 8191]
theorem larderref03_PrintDate.tab21 : rtab .any (opsOf Tryd.f39 21) = larderref03_PrintDate.T21 := by kernel_rfl
theorem larderref03_PrintDate.bits21 : waitsOk larderref03_PrintDate.T21.2 larderref03_PrintDate.B21 = true := by kernel_rfl
set_option maxHeartbeats 8000000 in
set_option maxRecDepth 100000 in
theorem larderref03_PrintDate.calls (k : Nat) (a0_0 : Int) (a0_1 : Int) (a0_2 : Int) (a1 : Int) (r1 : ByteArray) (r2 : Int) (w : World) (h : larderref03_PrintDate.f k a0_0 a0_1 a0_2 a1 = some (r1, r2)) :
    Calls Tryd.prog 39 #[.agg #[.int .i64 a0_0, .int .i64 a0_1, .int .i64 a0_2], .int .i64 a1] w fun e w' => e = .returned (.tuple #[.string r1, .int .i64 r2]) ∧ Below w.heap.size w w' := by
  have hu23 := Tryd.underlying23
  have hu86 := Tryd.underlying86
  have HB := Aside0.mk (Below.refl w.heap.size w)
  have H : ((larderref03_Days.f k a0_0 a0_1 a0_2).bind fun bt390102 => (if bt390102.2 = 0 then (if a1 < 0 then (larderref03_PrintDate.j0 k a1 bt390102.1 true a0_0 a0_1 a0_2) else (larderref03_PrintDate.j0 k a1 bt390102.1 (decide (a1 > 5)) a0_0 a0_1 a0_2)) else (some ((⟨#[]⟩ : ByteArray), bt390102.2)))) = some (r1, r2) := h
  clear h
  replace H := Option.bind_eq_some_iff.mp H
  obtain ⟨⟨t390102, t390103⟩, A30, H⟩ := H
  replace H : (if t390103 = 0 then (if a1 < 0 then (larderref03_PrintDate.j0 k a1 t390102 true a0_0 a0_1 a0_2) else (larderref03_PrintDate.j0 k a1 t390102 (decide (a1 > 5)) a0_0 a0_1 a0_2)) else (some ((⟨#[]⟩ : ByteArray), t390103))) = some (r1, r2) := H
  have A3 := Aside0.mk A30
  clear A30
  by_cases c4 : t390103 = 0
  · rw [if_pos c4] at H
    have c4b0 : (t390103 == 0) = true := beq_iff_eq.mpr c4
    have c4b1 : (t390103 != 0) = false := bne_eq_false_iff_eq.mpr c4
    clear c4
    have HC5 := Aside0.mk H
    clear H
    go_enter Tryd.func39, Tryd.ntmps39
    go_upto_region 4 with (first | ((with_reducible refine gate_dst (N := 2) rfl ?_); refine box_event ?hg (N := 2) ?hd (cs := #[.int .i64 a0_0, .int .i64 a0_1, .int .i64 a0_2]) (t := 23) ?hr ?_; (case hd => rfl); (case hg => rfl); (case hr => first | (go_simp; done) | (go_simp; rfl)); intro gb390101 hg w6 hbox hb; have n0_ := Aside0.mk (below_step (by repeat (first | (with_reducible first | exact HB.out | apply below_alloc | apply pw_below_drewN | apply below_drew1) | exact HB.out)) hb); have n1_ := Aside0.mk (hbox); have n2_ := Aside0.mk ((by rw [hg]; exact (below_size (by repeat (first | (with_reducible first | exact HB.out | apply below_alloc | apply pw_below_drewN | apply below_drew1) | exact HB.out))) : w.heap.size ≤ gb390101)); have n3_ := Aside0.mk ((by rw [hg]; exact (below_size (by repeat (first | (with_reducible first | exact HB.out | apply below_alloc | apply pw_below_drewN | apply below_drew1) | exact HB.out))) : w.heap.size ≤ gb390101)); clear HB; have HB := n0_; have BK390101 := n1_; have GW390101 := n2_; have GE390101 := n3_; clear n0_ n1_ n2_ n3_; clear hb hbox hg; have hcz7_0 : w6.cell? ⟨gb390101, 0, none⟩ = some (.int .i64 a0_0) := (blk_cell BK390101.out 0).trans rfl; have hcz7_1 : w6.cell? ⟨gb390101, 1, none⟩ = some (.int .i64 a0_1) := (blk_cell BK390101.out 1).trans rfl; have hcz7_2 : w6.cell? ⟨gb390101, 2, none⟩ = some (.int .i64 a0_2) := (blk_cell BK390101.out 2).trans rfl; have hfz7_0 := blk_frozen BK390101.out 0; have hfz7_1 := blk_frozen BK390101.out 1; have hfz7_2 := blk_frozen BK390101.out 2) | ((with_reducible refine gate_callee (f := 74) rfl ?_); refine goesL_ (some 12) rfl rfl Tryd.func74 (by kernel_rfl) rfl #[.agg #[.int .i64 a0_0, .int .i64 a0_1, .int .i64 a0_2]] rfl (by (try simp only [List.map_toArray, List.map_cons, List.map_nil]); first | done | rfl | (simp only [List.length_drop, List.length_take]; rfl)) ?_; (with_reducible refine (larderref03_Days.calls k a0_0 a0_1 a0_2 t390102 t390103 _ A3.out).mono ?_); rintro e w8 ⟨rfl, hb⟩; refine ⟨_, rfl, ?_⟩; have n0_ := Aside0.mk (blk_below (g := gb390101) (o := .cells #[.int .i64 a0_0, .int .i64 a0_1, .int .i64 a0_2] 23 (0, 0)) (by (with_reducible repeat (first | refine blk_drewN ?_ _ | refine blk_drew ?_ | refine blk_alloc ?_ _)); exact BK390101.out) hb); have n1_ := Aside0.mk (below_step (by repeat (first | (with_reducible first | exact HB.out | apply below_alloc | apply pw_below_drewN | apply below_drew1 | refine below_set ?_ GE390101.out) | exact HB.out)) hb); clear BK390101; clear HB; have BK390101 := n0_; have HB := n1_; clear n0_ n1_; (try clear hb); (try clear hb2); (try clear hk); (try clear hi)))
    (try simp only [Act.put, List.setIfInBounds_toArray, List.set_cons_zero, List.set_cons_succ])
    go_cut [23] (fun v23 wc => ∃ (kq : Nat) (x23_4 : Bool), v23 = .bool x23_4 ∧ Aside0 (larderref03_PrintDate.j0 kq a1 t390102 x23_4 a0_0 a0_1 a0_2 = some (r1, r2)) ∧ Aside0 (kq ≤ k) ∧ Aside0 (wc.heap[gb390101]? = some (.cells #[.int .i64 a0_0, .int .i64 a0_1, .int .i64 a0_2] 23 (0, 0))) ∧ Aside0 (Below w.heap.size w wc))
    case first =>
      have H := HC5.out
      clear HC5
      by_cases c9 : a1 < 0
      · rw [if_pos c9] at H
        have c9b0 : decide (a1 < 0) = true := decide_eq_true c9
        clear c9
        (first | rw [c9b0] | (simp only [i64_w, i32_w]; rw [c9b0]) | skip)
        have H' := Aside0.mk H
        clear H
        go_wp2
        go_meet
        case rel => exact ⟨_, (true), (by first | rfl | (simp; done) | (simp [*]; done)), H', ⟨by first | omega | exact Nat.le_refl _⟩, ⟨by (with_reducible repeat (first | refine blk_drewN ?_ _ | refine blk_drew ?_ | refine blk_alloc ?_ _)); exact BK390101.out⟩, ⟨by repeat (first | (with_reducible first | exact HB.out | apply below_alloc | apply pw_below_drewN | apply below_drew1 | refine below_set ?_ GE390101.out) | exact HB.out)⟩⟩
      · rw [if_neg c9] at H
        have c9b0 : decide (a1 < 0) = false := decide_eq_false c9
        clear c9
        (first | rw [c9b0] | (simp only [i64_w, i32_w]; rw [c9b0]) | skip)
        have H' := Aside0.mk H
        clear H
        go_wp2
        go_meet
        case rel => exact ⟨_, (decide (a1 > 5)), (by first | rfl | (simp; done) | (simp [*]; done)), H', ⟨by first | omega | exact Nat.le_refl _⟩, ⟨by (with_reducible repeat (first | refine blk_drewN ?_ _ | refine blk_drew ?_ | refine blk_alloc ?_ _)); exact BK390101.out⟩, ⟨by repeat (first | (with_reducible first | exact HB.out | apply below_alloc | apply pw_below_drewN | apply below_drew1 | refine below_set ?_ GE390101.out) | exact HB.out)⟩⟩
    case rest =>
      clear HC5
      try clear p2
      try clear c3
      try clear c4
      try clear c4b0
      try clear c4b1
      try clear c7
      try clear c9
      try clear c9b0
      try clear hcz7_0
      try clear hcz7_1
      try clear hcz7_2
      try clear hfz7_0
      try clear hfz7_1
      try clear hfz7_2
      obtain ⟨kq, x23_4, rfl, HA, HJ4, BK390101, HB⟩ := hcut
      cases kq with
      | zero => exact absurd HA.out (by simp [larderref03_PrintDate.j0])
      | succ kj4 =>
        have H := HA.out
        clear HA
        simp only [larderref03_PrintDate.j0] at H
        by_cases c10 : x23_4 = true
        · subst c10
          have H1 : (some ((⟨#[]⟩ : ByteArray), 2)) = some (r1, r2) := by rw [if_pos rfl] at H; exact H
          clear H
          have H := H1
          clear H1
          simp only [Option.some.injEq, Prod.mk.injEq] at H
          obtain ⟨rfl, rfl⟩ := H
          go_wp2
          go_ret2
          exact ⟨by first | rfl | (simp [errW_none, errW_some] <;> rfl) | (simp [*, errW_none, errW_some] <;> rfl), by repeat (first | (with_reducible first | exact HB.out | apply below_alloc | apply pw_below_drewN | apply below_drew1 | refine below_set ?_ GE390101.out) | exact HB.out)⟩
        · replace c10 := Bool.eq_false_iff.mpr c10
          subst c10
          have H1 : ((larderref03_week.f kj4 t390102).bind fun bt390104 => ((larderref03_pad.f kj4 a0_0 4).bind fun t390108 => (if a1 = 0 then (if t390108.size + 1 ≤ 9223372036854775807 then ((larderref03_pad.f kj4 a0_1 2).bind fun t390109 => (if t390108.size + 1 + t390109.size ≤ 9223372036854775807 then (if t390108.size + 1 + t390109.size + 1 ≤ 9223372036854775807 then ((larderref03_pad.f kj4 a0_2 2).bind fun t390110 => (if t390108.size + 1 + t390109.size + 1 + t390110.size ≤ 9223372036854775807 then (some ((((t390108 ++ (⟨#[45]⟩ : ByteArray)) ++ t390109) ++ (⟨#[45]⟩ : ByteArray)) ++ t390110, 0)) else (none))) else (none)) else (none))) else (none)) else (if a1 = 1 then ((larderref03_pad.f kj4 a0_1 2).bind fun t390111 => (if t390108.size + t390111.size ≤ 9223372036854775807 then ((larderref03_pad.f kj4 a0_2 2).bind fun t390112 => (if t390108.size + t390111.size + t390112.size ≤ 9223372036854775807 then (some ((t390108 ++ t390111) ++ t390112, 0)) else (none))) else (none))) else (if a1 = 2 then (if t390108.size + 1 ≤ 9223372036854775807 then ((larderref03_ahead.f a0_0).bind fun t390113 => ((larderref03_pad.f kj4 (wrap64 ((wrap64 (t390102 - t390113)) + 1)) 3).bind fun t390114 => (if t390108.size + 1 + t390114.size ≤ 9223372036854775807 then (some ((t390108 ++ (⟨#[45]⟩ : ByteArray)) ++ t390114, 0)) else (none)))) else (none)) else (if a1 = 3 then ((larderref03_ahead.f a0_0).bind fun t390115 => ((larderref03_pad.f kj4 (wrap64 ((wrap64 (t390102 - t390115)) + 1)) 3).bind fun t390116 => (if t390108.size + t390116.size ≤ 9223372036854775807 then (some (t390108 ++ t390116, 0)) else (none)))) else (if bt390104.1 < 0 then (some ((⟨#[]⟩ : ByteArray), 35)) else (if a1 = 4 then ((larderref03_pad.f kj4 bt390104.1 4).bind fun t390117 => (if t390117.size + 2 ≤ 9223372036854775807 then ((larderref03_pad.f kj4 bt390104.2.1 2).bind fun t390118 => (if t390117.size + 2 + t390118.size ≤ 9223372036854775807 then (if t390117.size + 2 + t390118.size + 1 ≤ 9223372036854775807 then ((larderref03_pad.f kj4 bt390104.2.2 1).bind fun t390119 => (if t390117.size + 2 + t390118.size + 1 + t390119.size ≤ 9223372036854775807 then (some ((((t390117 ++ (⟨#[45, 87]⟩ : ByteArray)) ++ t390118) ++ (⟨#[45]⟩ : ByteArray)) ++ t390119, 0)) else (none))) else (none)) else (none))) else (none))) else ((larderref03_pad.f kj4 bt390104.1 4).bind fun t390120 => (if t390120.size + 1 ≤ 9223372036854775807 then ((larderref03_pad.f kj4 bt390104.2.1 2).bind fun t390121 => (if t390120.size + 1 + t390121.size ≤ 9223372036854775807 then ((larderref03_pad.f kj4 bt390104.2.2 1).bind fun t390122 => (if t390120.size + 1 + t390121.size + t390122.size ≤ 9223372036854775807 then (some (((t390120 ++ (⟨#[87]⟩ : ByteArray)) ++ t390121) ++ t390122, 0)) else (none))) else (none))) else (none))))))))))) = some (r1, r2) := by rw [if_neg (show ¬ (false = true) by decide)] at H; exact H
          clear H
          have H := H1
          clear H1
          replace H := Option.bind_eq_some_iff.mp H
          obtain ⟨⟨t390104, t390105, t390106⟩, A110, H⟩ := H
          replace H : ((larderref03_pad.f kj4 a0_0 4).bind fun t390108 => (if a1 = 0 then (if t390108.size + 1 ≤ 9223372036854775807 then ((larderref03_pad.f kj4 a0_1 2).bind fun t390109 => (if t390108.size + 1 + t390109.size ≤ 9223372036854775807 then (if t390108.size + 1 + t390109.size + 1 ≤ 9223372036854775807 then ((larderref03_pad.f kj4 a0_2 2).bind fun t390110 => (if t390108.size + 1 + t390109.size + 1 + t390110.size ≤ 9223372036854775807 then (some ((((t390108 ++ (⟨#[45]⟩ : ByteArray)) ++ t390109) ++ (⟨#[45]⟩ : ByteArray)) ++ t390110, 0)) else (none))) else (none)) else (none))) else (none)) else (if a1 = 1 then ((larderref03_pad.f kj4 a0_1 2).bind fun t390111 => (if t390108.size + t390111.size ≤ 9223372036854775807 then ((larderref03_pad.f kj4 a0_2 2).bind fun t390112 => (if t390108.size + t390111.size + t390112.size ≤ 9223372036854775807 then (some ((t390108 ++ t390111) ++ t390112, 0)) else (none))) else (none))) else (if a1 = 2 then (if t390108.size + 1 ≤ 9223372036854775807 then ((larderref03_ahead.f a0_0).bind fun t390113 => ((larderref03_pad.f kj4 (wrap64 ((wrap64 (t390102 - t390113)) + 1)) 3).bind fun t390114 => (if t390108.size + 1 + t390114.size ≤ 9223372036854775807 then (some ((t390108 ++ (⟨#[45]⟩ : ByteArray)) ++ t390114, 0)) else (none)))) else (none)) else (if a1 = 3 then ((larderref03_ahead.f a0_0).bind fun t390115 => ((larderref03_pad.f kj4 (wrap64 ((wrap64 (t390102 - t390115)) + 1)) 3).bind fun t390116 => (if t390108.size + t390116.size ≤ 9223372036854775807 then (some (t390108 ++ t390116, 0)) else (none)))) else (if t390104 < 0 then (some ((⟨#[]⟩ : ByteArray), 35)) else (if a1 = 4 then ((larderref03_pad.f kj4 t390104 4).bind fun t390117 => (if t390117.size + 2 ≤ 9223372036854775807 then ((larderref03_pad.f kj4 t390105 2).bind fun t390118 => (if t390117.size + 2 + t390118.size ≤ 9223372036854775807 then (if t390117.size + 2 + t390118.size + 1 ≤ 9223372036854775807 then ((larderref03_pad.f kj4 t390106 1).bind fun t390119 => (if t390117.size + 2 + t390118.size + 1 + t390119.size ≤ 9223372036854775807 then (some ((((t390117 ++ (⟨#[45, 87]⟩ : ByteArray)) ++ t390118) ++ (⟨#[45]⟩ : ByteArray)) ++ t390119, 0)) else (none))) else (none)) else (none))) else (none))) else ((larderref03_pad.f kj4 t390104 4).bind fun t390120 => (if t390120.size + 1 ≤ 9223372036854775807 then ((larderref03_pad.f kj4 t390105 2).bind fun t390121 => (if t390120.size + 1 + t390121.size ≤ 9223372036854775807 then ((larderref03_pad.f kj4 t390106 1).bind fun t390122 => (if t390120.size + 1 + t390121.size + t390122.size ≤ 9223372036854775807 then (some (((t390120 ++ (⟨#[87]⟩ : ByteArray)) ++ t390121) ++ t390122, 0)) else (none))) else (none))) else (none)))))))))) = some (r1, r2) := H
          have A11 := Aside0.mk A110
          clear A110
          replace H := Option.bind_eq_some_iff.mp H
          obtain ⟨t390108, A120, H⟩ := H
          replace H : (if a1 = 0 then (if t390108.size + 1 ≤ 9223372036854775807 then ((larderref03_pad.f kj4 a0_1 2).bind fun t390109 => (if t390108.size + 1 + t390109.size ≤ 9223372036854775807 then (if t390108.size + 1 + t390109.size + 1 ≤ 9223372036854775807 then ((larderref03_pad.f kj4 a0_2 2).bind fun t390110 => (if t390108.size + 1 + t390109.size + 1 + t390110.size ≤ 9223372036854775807 then (some ((((t390108 ++ (⟨#[45]⟩ : ByteArray)) ++ t390109) ++ (⟨#[45]⟩ : ByteArray)) ++ t390110, 0)) else (none))) else (none)) else (none))) else (none)) else (if a1 = 1 then ((larderref03_pad.f kj4 a0_1 2).bind fun t390111 => (if t390108.size + t390111.size ≤ 9223372036854775807 then ((larderref03_pad.f kj4 a0_2 2).bind fun t390112 => (if t390108.size + t390111.size + t390112.size ≤ 9223372036854775807 then (some ((t390108 ++ t390111) ++ t390112, 0)) else (none))) else (none))) else (if a1 = 2 then (if t390108.size + 1 ≤ 9223372036854775807 then ((larderref03_ahead.f a0_0).bind fun t390113 => ((larderref03_pad.f kj4 (wrap64 ((wrap64 (t390102 - t390113)) + 1)) 3).bind fun t390114 => (if t390108.size + 1 + t390114.size ≤ 9223372036854775807 then (some ((t390108 ++ (⟨#[45]⟩ : ByteArray)) ++ t390114, 0)) else (none)))) else (none)) else (if a1 = 3 then ((larderref03_ahead.f a0_0).bind fun t390115 => ((larderref03_pad.f kj4 (wrap64 ((wrap64 (t390102 - t390115)) + 1)) 3).bind fun t390116 => (if t390108.size + t390116.size ≤ 9223372036854775807 then (some (t390108 ++ t390116, 0)) else (none)))) else (if t390104 < 0 then (some ((⟨#[]⟩ : ByteArray), 35)) else (if a1 = 4 then ((larderref03_pad.f kj4 t390104 4).bind fun t390117 => (if t390117.size + 2 ≤ 9223372036854775807 then ((larderref03_pad.f kj4 t390105 2).bind fun t390118 => (if t390117.size + 2 + t390118.size ≤ 9223372036854775807 then (if t390117.size + 2 + t390118.size + 1 ≤ 9223372036854775807 then ((larderref03_pad.f kj4 t390106 1).bind fun t390119 => (if t390117.size + 2 + t390118.size + 1 + t390119.size ≤ 9223372036854775807 then (some ((((t390117 ++ (⟨#[45, 87]⟩ : ByteArray)) ++ t390118) ++ (⟨#[45]⟩ : ByteArray)) ++ t390119, 0)) else (none))) else (none)) else (none))) else (none))) else ((larderref03_pad.f kj4 t390104 4).bind fun t390120 => (if t390120.size + 1 ≤ 9223372036854775807 then ((larderref03_pad.f kj4 t390105 2).bind fun t390121 => (if t390120.size + 1 + t390121.size ≤ 9223372036854775807 then ((larderref03_pad.f kj4 t390106 1).bind fun t390122 => (if t390120.size + 1 + t390121.size + t390122.size ≤ 9223372036854775807 then (some (((t390120 ++ (⟨#[87]⟩ : ByteArray)) ++ t390121) ++ t390122, 0)) else (none))) else (none))) else (none))))))))) = some (r1, r2) := H
          have A12 := Aside0.mk A120
          clear A120
          by_cases c13 : a1 = 0
          · rw [if_pos c13] at H
            have c13b0 : (a1 == 0) = true := beq_iff_eq.mpr c13
            have c13b1 : (a1 != 0) = false := bne_eq_false_iff_eq.mpr c13
            clear c13
            by_cases c14 : t390108.size + 1 ≤ 9223372036854775807
            · rw [if_pos c14] at H
              have c14b0 := eq_true c14
              have c14b1 : decide (t390108.size + 1 ≤ 9223372036854775807) = true := decide_eq_true c14
              try have c14b2 : (9223372036854775807 < t390108.size + 1) = False := eq_false (Nat.not_lt.2 c14)
              replace H := Option.bind_eq_some_iff.mp H
              obtain ⟨t390109, A150, H⟩ := H
              replace H : (if t390108.size + 1 + t390109.size ≤ 9223372036854775807 then (if t390108.size + 1 + t390109.size + 1 ≤ 9223372036854775807 then ((larderref03_pad.f kj4 a0_2 2).bind fun t390110 => (if t390108.size + 1 + t390109.size + 1 + t390110.size ≤ 9223372036854775807 then (some ((((t390108 ++ (⟨#[45]⟩ : ByteArray)) ++ t390109) ++ (⟨#[45]⟩ : ByteArray)) ++ t390110, 0)) else (none))) else (none)) else (none)) = some (r1, r2) := H
              have A15 := Aside0.mk A150
              clear A150
              by_cases c16 : t390108.size + 1 + t390109.size ≤ 9223372036854775807
              · rw [if_pos c16] at H
                have c16b0 := eq_true c16
                have c16b1 : decide (t390108.size + 1 + t390109.size ≤ 9223372036854775807) = true := decide_eq_true c16
                try have c16b2 : (9223372036854775807 < t390108.size + 1 + t390109.size) = False := eq_false (Nat.not_lt.2 c16)
                by_cases c17 : t390108.size + 1 + t390109.size + 1 ≤ 9223372036854775807
                · rw [if_pos c17] at H
                  have c17b0 := eq_true c17
                  have c17b1 : decide (t390108.size + 1 + t390109.size + 1 ≤ 9223372036854775807) = true := decide_eq_true c17
                  try have c17b2 : (9223372036854775807 < t390108.size + 1 + t390109.size + 1) = False := eq_false (Nat.not_lt.2 c17)
                  replace H := Option.bind_eq_some_iff.mp H
                  obtain ⟨t390110, A180, H⟩ := H
                  replace H : (if t390108.size + 1 + t390109.size + 1 + t390110.size ≤ 9223372036854775807 then (some ((((t390108 ++ (⟨#[45]⟩ : ByteArray)) ++ t390109) ++ (⟨#[45]⟩ : ByteArray)) ++ t390110, 0)) else (none)) = some (r1, r2) := H
                  have A18 := Aside0.mk A180
                  clear A180
                  by_cases c19 : t390108.size + 1 + t390109.size + 1 + t390110.size ≤ 9223372036854775807
                  · rw [if_pos c19] at H
                    have c19b0 := eq_true c19
                    have c19b1 : decide (t390108.size + 1 + t390109.size + 1 + t390110.size ≤ 9223372036854775807) = true := decide_eq_true c19
                    try have c19b2 : (9223372036854775807 < t390108.size + 1 + t390109.size + 1 + t390110.size) = False := eq_false (Nat.not_lt.2 c19)
                    simp only [Option.some.injEq, Prod.mk.injEq] at H
                    obtain ⟨rfl, rfl⟩ := H
                    try go_wp2_with (first | ((with_reducible refine gate_callee (f := 75) rfl ?_); refine goesL_ (some 25) rfl rfl Tryd.func75 (by kernel_rfl) rfl #[.int .i64 t390102] rfl (by (try simp only [List.map_toArray, List.map_cons, List.map_nil]); first | done | rfl | (simp only [List.length_drop, List.length_take]; rfl)) ?_; (with_reducible refine (larderref03_week.calls kj4 t390102 t390104 t390105 t390106 _ A11.out).mono ?_); rintro e w20 ⟨rfl, hb⟩; refine ⟨_, rfl, ?_⟩; have n0_ := Aside0.mk (blk_below (g := gb390101) (o := .cells #[.int .i64 a0_0, .int .i64 a0_1, .int .i64 a0_2] 23 (0, 0)) (by (with_reducible repeat (first | refine blk_drewN ?_ _ | refine blk_drew ?_ | refine blk_alloc ?_ _)); exact BK390101.out) hb); have n1_ := Aside0.mk (below_step (by repeat (first | (with_reducible first | exact HB.out | apply below_alloc | apply pw_below_drewN | apply below_drew1 | refine below_set ?_ GE390101.out) | exact HB.out)) hb); clear BK390101; clear HB; have BK390101 := n0_; have HB := n1_; clear n0_ n1_; (try clear hb); (try clear hb2); (try clear hk); (try clear hi)) | ((with_reducible refine gate_dst (N := 8) rfl ?_); refine box_event ?hg (N := 8) ?hd (cs := #[.int .i64 0, .int .i64 0, .int .i64 0]) (t := 86) ?hr ?_; (case hd => rfl); (case hg => rfl); (case hr => first | (go_simp; done) | (go_simp; rfl)); intro gb390107 hg w21 hbox hb; have n0_ := Aside0.mk (blk_below (g := gb390101) (o := .cells #[.int .i64 a0_0, .int .i64 a0_1, .int .i64 a0_2] 23 (0, 0)) (by (with_reducible repeat (first | refine blk_drewN ?_ _ | refine blk_drew ?_ | refine blk_alloc ?_ _)); exact BK390101.out) hb); have n1_ := Aside0.mk (below_step (by repeat (first | (with_reducible first | exact HB.out | apply below_alloc | apply pw_below_drewN | apply below_drew1 | refine below_set ?_ GE390101.out) | exact HB.out)) hb); have n2_ := Aside0.mk (hbox); have n3_ := Aside0.mk ((by rw [hg]; exact (below_size (by repeat (first | (with_reducible first | exact HB.out | apply below_alloc | apply pw_below_drewN | apply below_drew1 | refine below_set ?_ GE390101.out) | exact HB.out))) : w.heap.size ≤ gb390107)); have n4_ := Aside0.mk ((by rw [hg]; exact (below_size (by repeat (first | (with_reducible first | exact HB.out | apply below_alloc | apply pw_below_drewN | apply below_drew1 | refine below_set ?_ GE390101.out) | exact HB.out))) : w.heap.size ≤ gb390107)); have n5_ := Aside0.mk ((by rw [hg]; exact Nat.ne_of_lt (blk_lt (g := gb390101) (o := .cells #[.int .i64 a0_0, .int .i64 a0_1, .int .i64 a0_2] 23 (0, 0)) (by (with_reducible repeat (first | refine blk_drewN ?_ _ | refine blk_drew ?_ | refine blk_alloc ?_ _)); exact BK390101.out)) : gb390101 ≠ gb390107)); have n6_ := Aside0.mk ((by rw [hg]; exact Nat.ne_of_gt (blk_lt (g := gb390101) (o := .cells #[.int .i64 a0_0, .int .i64 a0_1, .int .i64 a0_2] 23 (0, 0)) (by (with_reducible repeat (first | refine blk_drewN ?_ _ | refine blk_drew ?_ | refine blk_alloc ?_ _)); exact BK390101.out)) : gb390107 ≠ gb390101)); clear BK390101; clear HB; have BK390101 := n0_; have HB := n1_; have BK390107 := n2_; have GW390107 := n3_; have GE390107 := n4_; have NB390101_390107 := n5_; have NB390107_390101 := n6_; clear n0_ n1_ n2_ n3_ n4_ n5_ n6_; clear hb hbox hg; have hnb22 := NB390107_390101.out; have hnc22 := NB390101_390107.out; have hcz23_0 : w21.cell? ⟨gb390107, 0, none⟩ = some (.int .i64 0) := (blk_cell BK390107.out 0).trans rfl; have hcz23_1 : w21.cell? ⟨gb390107, 1, none⟩ = some (.int .i64 0) := (blk_cell BK390107.out 1).trans rfl; have hcz23_2 : w21.cell? ⟨gb390107, 2, none⟩ = some (.int .i64 0) := (blk_cell BK390107.out 2).trans rfl; have hfz23_0 := blk_frozen BK390107.out 0; have hfz23_1 := blk_frozen BK390107.out 1; have hfz23_2 := blk_frozen BK390107.out 2; have hcz24_0 : w21.cell? ⟨gb390101, 0, none⟩ = some (.int .i64 a0_0) := (blk_cell BK390101.out 0).trans rfl; have hcz24_1 : w21.cell? ⟨gb390101, 1, none⟩ = some (.int .i64 a0_1) := (blk_cell BK390101.out 1).trans rfl; have hcz24_2 : w21.cell? ⟨gb390101, 2, none⟩ = some (.int .i64 a0_2) := (blk_cell BK390101.out 2).trans rfl; have hfz24_0 := blk_frozen BK390101.out 0; have hfz24_1 := blk_frozen BK390101.out 1; have hfz24_2 := blk_frozen BK390101.out 2) | ((with_reducible refine gate_callee (f := 41) rfl ?_); refine goesL_ (some 28) rfl rfl Tryd.func41 (by kernel_rfl) rfl #[.int .i64 a0_0, .int .i64 4] rfl (by (try simp only [List.map_toArray, List.map_cons, List.map_nil]); first | done | rfl | (simp only [List.length_drop, List.length_take]; rfl)) ?_; (with_reducible refine (larderref03_pad.calls kj4 a0_0 4 t390108 _ A12.out).mono ?_); rintro e w25 ⟨rfl, hb⟩; refine ⟨_, rfl, ?_⟩; have n0_ := Aside0.mk (blk_below (g := gb390101) (o := .cells #[.int .i64 a0_0, .int .i64 a0_1, .int .i64 a0_2] 23 (0, 0)) (by (with_reducible repeat (first | refine blk_drewN ?_ _ | refine blk_drew ?_ | refine blk_alloc ?_ _)); refine blk_far ?_ NB390101_390107.out _; (with_reducible repeat (first | refine blk_drewN ?_ _ | refine blk_drew ?_ | refine blk_alloc ?_ _)); refine blk_far ?_ NB390101_390107.out _; (with_reducible repeat (first | refine blk_drewN ?_ _ | refine blk_drew ?_ | refine blk_alloc ?_ _)); refine blk_far ?_ NB390101_390107.out _; (with_reducible repeat (first | refine blk_drewN ?_ _ | refine blk_drew ?_ | refine blk_alloc ?_ _)); exact BK390101.out) hb); have n1_ := Aside0.mk (blk_below (g := gb390107) (o := .cells #[.int .i64 t390104, .int .i64 t390105, .int .i64 t390106] 86 (0, 0)) (by (with_reducible repeat (first | refine blk_drewN ?_ _ | refine blk_drew ?_ | refine blk_alloc ?_ _)); refine blk_put (cs := #[.int .i64 t390104, .int .i64 t390105, .int .i64 0]) ?_ 2 _ rfl; (with_reducible repeat (first | refine blk_drewN ?_ _ | refine blk_drew ?_ | refine blk_alloc ?_ _)); refine blk_put (cs := #[.int .i64 t390104, .int .i64 0, .int .i64 0]) ?_ 1 _ rfl; (with_reducible repeat (first | refine blk_drewN ?_ _ | refine blk_drew ?_ | refine blk_alloc ?_ _)); refine blk_put (cs := #[.int .i64 0, .int .i64 0, .int .i64 0]) ?_ 0 _ rfl; (with_reducible repeat (first | refine blk_drewN ?_ _ | refine blk_drew ?_ | refine blk_alloc ?_ _)); exact BK390107.out) hb); have n2_ := Aside0.mk (below_step (by repeat (first | (with_reducible first | exact HB.out | apply below_alloc | apply pw_below_drewN | apply below_drew1 | refine below_set ?_ GE390101.out | refine below_set ?_ GE390107.out) | exact HB.out)) hb); clear BK390101; clear BK390107; clear HB; have BK390101 := n0_; have BK390107 := n1_; have HB := n2_; clear n0_ n1_ n2_; (try clear hb); (try clear hb2); (try clear hk); (try clear hi)))
                    have n0_ := Aside0.mk (blk_drew BK390101.out)
                    have n1_ := Aside0.mk (blk_drew BK390107.out)
                    have n2_ := Aside0.mk (below_drew1 HB.out)
                    clear BK390101
                    clear BK390107
                    clear HB
                    have BK390101 := n0_
                    have BK390107 := n1_
                    have HB := n2_
                    clear n0_ n1_ n2_
                    refine start_ (n := 13) (S := fun w' => w'.cell? ⟨gb390101, 0, none⟩ = some (.int .i64 a0_0) ∧ w'.cell? ⟨gb390101, 1, none⟩ = some (.int .i64 a0_1) ∧ w'.cell? ⟨gb390101, 2, none⟩ = some (.int .i64 a0_2)) (ds := []) #[false, false, false, false, false, false, false, false, false, false, false, false, false] (by kernel_rfl) rfl rfl ⟨(blk_cell BK390101.out 0).trans rfl, (blk_cell BK390101.out 1).trans rfl, (blk_cell BK390101.out 2).trans rfl⟩ (fun hHeld => ?_); refine with_tabW larderref03_PrintDate.tab10 larderref03_PrintDate.bits10 (fun HT_ HW_ => ?_)
                    generalize w25.drew = w26 at BK390101 BK390107 HB hHeld ⊢
                    refine pure_ (i := 0) (N := some 32) (v := ?_) (a' := ?_) #[true, false, false, false, false, false, false, false, false, false, false, false, false] rfl rfl (any_of HT_.out (by kernel_rfl)) (fun _ _ _ h => h) (Or.inl ⟨by rfl, ?_⟩) ?_ ?_
                    rotate_left
                    · intro w'
                      go_simp
                      with_reducible rfl
                    rotate_left
                    · simp only [Act.put, List.setIfInBounds_toArray, List.set_cons_zero, List.set_cons_succ, i64_w, i32_w]
                      rfl
                    refine pure_ (i := 1) (N := some 33) (v := ?_) (a' := ?_) #[true, true, false, false, false, false, false, false, false, false, false, false, false] rfl rfl (any_of HT_.out (by kernel_rfl)) (fun _ _ _ h => h) (Or.inl ⟨by rfl, ?_⟩) ?_ ?_
                    rotate_left
                    · intro w'
                      go_simp
                      with_reducible rfl
                    rotate_left
                    · simp only [Act.put, List.setIfInBounds_toArray, List.set_cons_zero, List.set_cons_succ, i64_w, i32_w]
                      rfl
                    refine pure_ (i := 2) (N := some 34) (v := ?_) (a' := ?_) #[true, true, true, false, false, false, false, false, false, false, false, false, false] rfl rfl (any_of HT_.out (by kernel_rfl)) (fun _ _ _ h => h) (Or.inl ⟨by rfl, ?_⟩) ?_ ?_
                    rotate_left
                    · intro w'
                      go_simp
                      with_reducible rfl
                    rotate_left
                    · simp only [Act.put, List.setIfInBounds_toArray, List.set_cons_zero, List.set_cons_succ, i64_w, i32_w]
                      rfl
                    refine pure_ (i := 7) (N := some 39) (v := ?_) (a' := ?_) #[true, true, true, false, false, false, false, true, false, false, false, false, false] rfl rfl (any_of HT_.out (by kernel_rfl)) (fun _ _ _ h => h) (Or.inl ⟨by rfl, ?_⟩) ?_ ?_
                    rotate_left
                    · intro w'
                      go_simp
                      with_reducible rfl
                    rotate_left
                    · simp only [Act.put, List.setIfInBounds_toArray, List.set_cons_zero, List.set_cons_succ, i64_w, i32_w]
                      rfl
                    refine take_ (i := 3) (N := some 35) (v := ?_) (a' := ?_) #[true, true, true, true, false, false, false, true, false, false, false, false, false] rfl rfl (take_ofW HT_.out HW_.out (by kernel_rfl)) (fun _ _ _ h => h) (Or.inl ⟨by rfl, ?_⟩) hHeld ?_ ?_
                    rotate_left
                    · rintro w' ⟨s0, s1, s2⟩
                      go_simp
                      with_reducible rfl
                    rotate_left
                    · simp only [Act.put, List.setIfInBounds_toArray, List.set_cons_zero, List.set_cons_succ, i64_w, i32_w]
                      rfl
                    refine take_ (i := 8) (N := some 40) (v := ?_) (a' := ?_) #[true, true, true, true, false, false, false, true, true, false, false, false, false] rfl rfl (take_ofW HT_.out HW_.out (by kernel_rfl)) (fun _ _ _ h => h) (Or.inl ⟨by rfl, ?_⟩) hHeld ?_ ?_
                    rotate_left
                    · rintro w' ⟨s0, s1, s2⟩
                      go_simp
                      with_reducible rfl
                    rotate_left
                    · simp only [Act.put, List.setIfInBounds_toArray, List.set_cons_zero, List.set_cons_succ, i64_w, i32_w]
                      rfl
                    refine one_ (i := 4) (N := some 36) #[true, true, true, true, true, false, false, true, true, false, false, false, false] rfl rfl (one_of HT_.out (by kernel_rfl)) (by decide) (fun K hK => ?_)
                    refine goes_ Tryd.func41 (by kernel_rfl) rfl #[.int .i64 a0_1, .int .i64 2] (by rfl) rfl rfl (by (try simp only [List.map_toArray, List.map_cons, List.map_nil]); first | done | rfl | (simp only [List.length_drop, List.length_take]; rfl)) ?_
                    with_reducible refine (larderref03_pad.calls kj4 a0_1 2 t390109 _ A15.out).mono ?_
                    rintro e w27 ⟨rfl, hb⟩
                    refine ⟨_, rfl, ?_⟩
                    have n0_ := Aside0.mk (blk_below (g := gb390101) (o := .cells #[.int .i64 a0_0, .int .i64 a0_1, .int .i64 a0_2] 23 (0, 0)) (by (with_reducible repeat (first | refine blk_drewN ?_ _ | refine blk_drew ?_ | refine blk_alloc ?_ _)); exact BK390101.out) hb)
                    have n1_ := Aside0.mk (blk_below (g := gb390107) (o := .cells #[.int .i64 t390104, .int .i64 t390105, .int .i64 t390106] 86 (0, 0)) (by (with_reducible repeat (first | refine blk_drewN ?_ _ | refine blk_drew ?_ | refine blk_alloc ?_ _)); exact BK390107.out) hb)
                    have n2_ := Aside0.mk (below_step (by repeat (first | (with_reducible first | exact HB.out | apply below_alloc | apply pw_below_drewN | apply below_drew1 | refine below_set ?_ GE390101.out | refine below_set ?_ GE390107.out) | exact HB.out)) hb)
                    clear BK390101
                    clear BK390107
                    clear HB
                    have BK390101 := n0_
                    have BK390107 := n1_
                    have HB := n2_
                    clear n0_ n1_ n2_
                    (try clear hb)
                    (try clear hb2)
                    (try clear hk)
                    (try clear hi)
                    refine hK.out _ _ ⟨(blk_cell BK390101.out 0).trans rfl, (blk_cell BK390101.out 1).trans rfl, (blk_cell BK390101.out 2).trans rfl⟩ (fun hHeld => ?_)
                    clear hK K
                    refine norm_ (a' := ?_) ?_ ?_
                    rotate_left
                    · show Act.put _ (some 36) _ = _
                      simp only [Act.put, List.setIfInBounds_toArray, List.set_cons_zero, List.set_cons_succ, i64_w, i32_w]
                      rfl
                    refine pure_ (i := 5) (N := some 37) (v := ?_) (a' := ?_) #[true, true, true, true, true, true, false, true, true, false, false, false, false] rfl rfl (any_of HT_.out (by kernel_rfl)) (fun _ _ _ h => h) (Or.inl ⟨by rfl, ?_⟩) ?_ ?_
                    rotate_left
                    · intro w'
                      go_simp
                      with_reducible rfl
                    rotate_left
                    · simp only [Act.put, List.setIfInBounds_toArray, List.set_cons_zero, List.set_cons_succ, i64_w, i32_w]
                      rfl
                    refine pure_ (i := 6) (N := some 38) (v := ?_) (a' := ?_) #[true, true, true, true, true, true, true, true, true, false, false, false, false] rfl rfl (any_of HT_.out (by kernel_rfl)) (fun _ _ _ h => h) (Or.inl ⟨by rfl, ?_⟩) ?_ ?_
                    rotate_left
                    · intro w'
                      go_simp
                      with_reducible rfl
                    rotate_left
                    · simp only [Act.put, List.setIfInBounds_toArray, List.set_cons_zero, List.set_cons_succ, i64_w, i32_w]
                      rfl
                    refine one_ (i := 9) (N := some 41) #[true, true, true, true, true, true, true, true, true, true, false, false, false] rfl rfl (one_of HT_.out (by kernel_rfl)) (by decide) (fun K hK => ?_)
                    refine goes_ Tryd.func41 (by kernel_rfl) rfl #[.int .i64 a0_2, .int .i64 2] (by rfl) rfl rfl (by (try simp only [List.map_toArray, List.map_cons, List.map_nil]); first | done | rfl | (simp only [List.length_drop, List.length_take]; rfl)) ?_
                    with_reducible refine (larderref03_pad.calls kj4 a0_2 2 t390110 _ A18.out).mono ?_
                    rintro e w28 ⟨rfl, hb⟩
                    refine ⟨_, rfl, ?_⟩
                    have n0_ := Aside0.mk (blk_below (g := gb390101) (o := .cells #[.int .i64 a0_0, .int .i64 a0_1, .int .i64 a0_2] 23 (0, 0)) (by (with_reducible repeat (first | refine blk_drewN ?_ _ | refine blk_drew ?_ | refine blk_alloc ?_ _)); exact BK390101.out) hb)
                    have n1_ := Aside0.mk (blk_below (g := gb390107) (o := .cells #[.int .i64 t390104, .int .i64 t390105, .int .i64 t390106] 86 (0, 0)) (by (with_reducible repeat (first | refine blk_drewN ?_ _ | refine blk_drew ?_ | refine blk_alloc ?_ _)); exact BK390107.out) hb)
                    have n2_ := Aside0.mk (below_step (by repeat (first | (with_reducible first | exact HB.out | apply below_alloc | apply pw_below_drewN | apply below_drew1 | refine below_set ?_ GE390101.out | refine below_set ?_ GE390107.out) | exact HB.out)) hb)
                    clear BK390101
                    clear BK390107
                    clear HB
                    have BK390101 := n0_
                    have BK390107 := n1_
                    have HB := n2_
                    clear n0_ n1_ n2_
                    (try clear hb)
                    (try clear hb2)
                    (try clear hk)
                    (try clear hi)
                    refine hK.out _ _ ⟨(blk_cell BK390101.out 0).trans rfl, (blk_cell BK390101.out 1).trans rfl, (blk_cell BK390101.out 2).trans rfl⟩ (fun hHeld => ?_)
                    clear hK K
                    refine norm_ (a' := ?_) ?_ ?_
                    rotate_left
                    · show Act.put _ (some 41) _ = _
                      simp only [Act.put, List.setIfInBounds_toArray, List.set_cons_zero, List.set_cons_succ, i64_w, i32_w]
                      rfl
                    refine pure_ (i := 10) (N := some 42) (v := ?_) (a' := ?_) #[true, true, true, true, true, true, true, true, true, true, true, false, false] rfl rfl (any_of HT_.out (by kernel_rfl)) (fun _ _ _ h => h) (Or.inl ⟨by rfl, ?_⟩) ?_ ?_
                    rotate_left
                    · intro w'
                      go_simp
                      with_reducible rfl
                    rotate_left
                    · simp only [Act.put, List.setIfInBounds_toArray, List.set_cons_zero, List.set_cons_succ, i64_w, i32_w]
                      rfl
                    refine pure_ (i := 11) (N := some 4) (v := ?_) (a' := ?_) #[true, true, true, true, true, true, true, true, true, true, true, true, false] rfl rfl (any_of HT_.out (by kernel_rfl)) (fun _ _ _ h => h) (Or.inl ⟨by rfl, ?_⟩) ?_ ?_
                    rotate_left
                    · intro w'
                      go_simp
                      with_reducible rfl
                    rotate_left
                    · simp only [Act.put, List.setIfInBounds_toArray, List.set_cons_zero, List.set_cons_succ, i64_w, i32_w]
                      rfl
                    refine pure_ (i := 12) (N := some 5) (v := ?_) (a' := ?_) #[true, true, true, true, true, true, true, true, true, true, true, true, true] rfl rfl (any_of HT_.out (by kernel_rfl)) (fun _ _ _ h => h) (Or.inl ⟨by rfl, ?_⟩) ?_ ?_
                    rotate_left
                    · intro w'
                      go_simp
                      with_reducible rfl
                    rotate_left
                    · simp only [Act.put, List.setIfInBounds_toArray, List.set_cons_zero, List.set_cons_succ, i64_w, i32_w]
                      rfl
                    refine done_ (done_of HT_.out (by kernel_rfl)) ?_
                    try go_wp2
                    go_ret2
                    exact ⟨by first | rfl | (simp [errW_none, errW_some] <;> rfl) | (simp [*, errW_none, errW_some] <;> rfl), by repeat (first | (with_reducible first | exact HB.out | apply below_alloc | apply pw_below_drewN | apply below_drew1 | refine below_set ?_ GE390101.out | refine below_set ?_ GE390107.out) | exact HB.out)⟩
                  · rw [if_neg c19] at H
                    exact absurd H (by simp)
                · rw [if_neg c17] at H
                  exact absurd H (by simp)
              · rw [if_neg c16] at H
                exact absurd H (by simp)
            · rw [if_neg c14] at H
              exact absurd H (by simp)
          · rw [if_neg c13] at H
            have c13b0 : (a1 == 0) = false := beq_eq_false_iff_ne.mpr c13
            have c13b1 : (a1 != 0) = true := bne_iff_ne.mpr c13
            by_cases c29 : a1 = 1
            · rw [if_pos c29] at H
              have c29b0 : (a1 == 1) = true := beq_iff_eq.mpr c29
              have c29b1 : (a1 != 1) = false := bne_eq_false_iff_eq.mpr c29
              clear c29
              replace H := Option.bind_eq_some_iff.mp H
              obtain ⟨t390111, A300, H⟩ := H
              replace H : (if t390108.size + t390111.size ≤ 9223372036854775807 then ((larderref03_pad.f kj4 a0_2 2).bind fun t390112 => (if t390108.size + t390111.size + t390112.size ≤ 9223372036854775807 then (some ((t390108 ++ t390111) ++ t390112, 0)) else (none))) else (none)) = some (r1, r2) := H
              have A30 := Aside0.mk A300
              clear A300
              by_cases c31 : t390108.size + t390111.size ≤ 9223372036854775807
              · rw [if_pos c31] at H
                have c31b0 := eq_true c31
                have c31b1 : decide (t390108.size + t390111.size ≤ 9223372036854775807) = true := decide_eq_true c31
                try have c31b2 : (9223372036854775807 < t390108.size + t390111.size) = False := eq_false (Nat.not_lt.2 c31)
                replace H := Option.bind_eq_some_iff.mp H
                obtain ⟨t390112, A320, H⟩ := H
                replace H : (if t390108.size + t390111.size + t390112.size ≤ 9223372036854775807 then (some ((t390108 ++ t390111) ++ t390112, 0)) else (none)) = some (r1, r2) := H
                have A32 := Aside0.mk A320
                clear A320
                by_cases c33 : t390108.size + t390111.size + t390112.size ≤ 9223372036854775807
                · rw [if_pos c33] at H
                  have c33b0 := eq_true c33
                  have c33b1 : decide (t390108.size + t390111.size + t390112.size ≤ 9223372036854775807) = true := decide_eq_true c33
                  try have c33b2 : (9223372036854775807 < t390108.size + t390111.size + t390112.size) = False := eq_false (Nat.not_lt.2 c33)
                  simp only [Option.some.injEq, Prod.mk.injEq] at H
                  obtain ⟨rfl, rfl⟩ := H
                  try go_wp2_with (first | ((with_reducible refine gate_callee (f := 75) rfl ?_); refine goesL_ (some 25) rfl rfl Tryd.func75 (by kernel_rfl) rfl #[.int .i64 t390102] rfl (by (try simp only [List.map_toArray, List.map_cons, List.map_nil]); first | done | rfl | (simp only [List.length_drop, List.length_take]; rfl)) ?_; (with_reducible refine (larderref03_week.calls kj4 t390102 t390104 t390105 t390106 _ A11.out).mono ?_); rintro e w34 ⟨rfl, hb⟩; refine ⟨_, rfl, ?_⟩; have n0_ := Aside0.mk (blk_below (g := gb390101) (o := .cells #[.int .i64 a0_0, .int .i64 a0_1, .int .i64 a0_2] 23 (0, 0)) (by (with_reducible repeat (first | refine blk_drewN ?_ _ | refine blk_drew ?_ | refine blk_alloc ?_ _)); exact BK390101.out) hb); have n1_ := Aside0.mk (below_step (by repeat (first | (with_reducible first | exact HB.out | apply below_alloc | apply pw_below_drewN | apply below_drew1 | refine below_set ?_ GE390101.out) | exact HB.out)) hb); clear BK390101; clear HB; have BK390101 := n0_; have HB := n1_; clear n0_ n1_; (try clear hb); (try clear hb2); (try clear hk); (try clear hi)) | ((with_reducible refine gate_dst (N := 8) rfl ?_); refine box_event ?hg (N := 8) ?hd (cs := #[.int .i64 0, .int .i64 0, .int .i64 0]) (t := 86) ?hr ?_; (case hd => rfl); (case hg => rfl); (case hr => first | (go_simp; done) | (go_simp; rfl)); intro gb390107 hg w35 hbox hb; have n0_ := Aside0.mk (blk_below (g := gb390101) (o := .cells #[.int .i64 a0_0, .int .i64 a0_1, .int .i64 a0_2] 23 (0, 0)) (by (with_reducible repeat (first | refine blk_drewN ?_ _ | refine blk_drew ?_ | refine blk_alloc ?_ _)); exact BK390101.out) hb); have n1_ := Aside0.mk (below_step (by repeat (first | (with_reducible first | exact HB.out | apply below_alloc | apply pw_below_drewN | apply below_drew1 | refine below_set ?_ GE390101.out) | exact HB.out)) hb); have n2_ := Aside0.mk (hbox); have n3_ := Aside0.mk ((by rw [hg]; exact (below_size (by repeat (first | (with_reducible first | exact HB.out | apply below_alloc | apply pw_below_drewN | apply below_drew1 | refine below_set ?_ GE390101.out) | exact HB.out))) : w.heap.size ≤ gb390107)); have n4_ := Aside0.mk ((by rw [hg]; exact (below_size (by repeat (first | (with_reducible first | exact HB.out | apply below_alloc | apply pw_below_drewN | apply below_drew1 | refine below_set ?_ GE390101.out) | exact HB.out))) : w.heap.size ≤ gb390107)); have n5_ := Aside0.mk ((by rw [hg]; exact Nat.ne_of_lt (blk_lt (g := gb390101) (o := .cells #[.int .i64 a0_0, .int .i64 a0_1, .int .i64 a0_2] 23 (0, 0)) (by (with_reducible repeat (first | refine blk_drewN ?_ _ | refine blk_drew ?_ | refine blk_alloc ?_ _)); exact BK390101.out)) : gb390101 ≠ gb390107)); have n6_ := Aside0.mk ((by rw [hg]; exact Nat.ne_of_gt (blk_lt (g := gb390101) (o := .cells #[.int .i64 a0_0, .int .i64 a0_1, .int .i64 a0_2] 23 (0, 0)) (by (with_reducible repeat (first | refine blk_drewN ?_ _ | refine blk_drew ?_ | refine blk_alloc ?_ _)); exact BK390101.out)) : gb390107 ≠ gb390101)); clear BK390101; clear HB; have BK390101 := n0_; have HB := n1_; have BK390107 := n2_; have GW390107 := n3_; have GE390107 := n4_; have NB390101_390107 := n5_; have NB390107_390101 := n6_; clear n0_ n1_ n2_ n3_ n4_ n5_ n6_; clear hb hbox hg; have hnb36 := NB390107_390101.out; have hnc36 := NB390101_390107.out; have hcz37_0 : w35.cell? ⟨gb390107, 0, none⟩ = some (.int .i64 0) := (blk_cell BK390107.out 0).trans rfl; have hcz37_1 : w35.cell? ⟨gb390107, 1, none⟩ = some (.int .i64 0) := (blk_cell BK390107.out 1).trans rfl; have hcz37_2 : w35.cell? ⟨gb390107, 2, none⟩ = some (.int .i64 0) := (blk_cell BK390107.out 2).trans rfl; have hfz37_0 := blk_frozen BK390107.out 0; have hfz37_1 := blk_frozen BK390107.out 1; have hfz37_2 := blk_frozen BK390107.out 2; have hcz38_0 : w35.cell? ⟨gb390101, 0, none⟩ = some (.int .i64 a0_0) := (blk_cell BK390101.out 0).trans rfl; have hcz38_1 : w35.cell? ⟨gb390101, 1, none⟩ = some (.int .i64 a0_1) := (blk_cell BK390101.out 1).trans rfl; have hcz38_2 : w35.cell? ⟨gb390101, 2, none⟩ = some (.int .i64 a0_2) := (blk_cell BK390101.out 2).trans rfl; have hfz38_0 := blk_frozen BK390101.out 0; have hfz38_1 := blk_frozen BK390101.out 1; have hfz38_2 := blk_frozen BK390101.out 2) | ((with_reducible refine gate_callee (f := 41) rfl ?_); refine goesL_ (some 28) rfl rfl Tryd.func41 (by kernel_rfl) rfl #[.int .i64 a0_0, .int .i64 4] rfl (by (try simp only [List.map_toArray, List.map_cons, List.map_nil]); first | done | rfl | (simp only [List.length_drop, List.length_take]; rfl)) ?_; (with_reducible refine (larderref03_pad.calls kj4 a0_0 4 t390108 _ A12.out).mono ?_); rintro e w39 ⟨rfl, hb⟩; refine ⟨_, rfl, ?_⟩; have n0_ := Aside0.mk (blk_below (g := gb390101) (o := .cells #[.int .i64 a0_0, .int .i64 a0_1, .int .i64 a0_2] 23 (0, 0)) (by (with_reducible repeat (first | refine blk_drewN ?_ _ | refine blk_drew ?_ | refine blk_alloc ?_ _)); refine blk_far ?_ NB390101_390107.out _; (with_reducible repeat (first | refine blk_drewN ?_ _ | refine blk_drew ?_ | refine blk_alloc ?_ _)); refine blk_far ?_ NB390101_390107.out _; (with_reducible repeat (first | refine blk_drewN ?_ _ | refine blk_drew ?_ | refine blk_alloc ?_ _)); refine blk_far ?_ NB390101_390107.out _; (with_reducible repeat (first | refine blk_drewN ?_ _ | refine blk_drew ?_ | refine blk_alloc ?_ _)); exact BK390101.out) hb); have n1_ := Aside0.mk (blk_below (g := gb390107) (o := .cells #[.int .i64 t390104, .int .i64 t390105, .int .i64 t390106] 86 (0, 0)) (by (with_reducible repeat (first | refine blk_drewN ?_ _ | refine blk_drew ?_ | refine blk_alloc ?_ _)); refine blk_put (cs := #[.int .i64 t390104, .int .i64 t390105, .int .i64 0]) ?_ 2 _ rfl; (with_reducible repeat (first | refine blk_drewN ?_ _ | refine blk_drew ?_ | refine blk_alloc ?_ _)); refine blk_put (cs := #[.int .i64 t390104, .int .i64 0, .int .i64 0]) ?_ 1 _ rfl; (with_reducible repeat (first | refine blk_drewN ?_ _ | refine blk_drew ?_ | refine blk_alloc ?_ _)); refine blk_put (cs := #[.int .i64 0, .int .i64 0, .int .i64 0]) ?_ 0 _ rfl; (with_reducible repeat (first | refine blk_drewN ?_ _ | refine blk_drew ?_ | refine blk_alloc ?_ _)); exact BK390107.out) hb); have n2_ := Aside0.mk (below_step (by repeat (first | (with_reducible first | exact HB.out | apply below_alloc | apply pw_below_drewN | apply below_drew1 | refine below_set ?_ GE390101.out | refine below_set ?_ GE390107.out) | exact HB.out)) hb); clear BK390101; clear BK390107; clear HB; have BK390101 := n0_; have BK390107 := n1_; have HB := n2_; clear n0_ n1_ n2_; (try clear hb); (try clear hb2); (try clear hk); (try clear hi)))
                  have n0_ := Aside0.mk (blk_drew BK390101.out)
                  have n1_ := Aside0.mk (blk_drew BK390107.out)
                  have n2_ := Aside0.mk (below_drew1 HB.out)
                  clear BK390101
                  clear BK390107
                  clear HB
                  have BK390101 := n0_
                  have BK390107 := n1_
                  have HB := n2_
                  clear n0_ n1_ n2_
                  refine start_ (n := 11) (S := fun w' => w'.cell? ⟨gb390101, 0, none⟩ = some (.int .i64 a0_0) ∧ w'.cell? ⟨gb390101, 1, none⟩ = some (.int .i64 a0_1) ∧ w'.cell? ⟨gb390101, 2, none⟩ = some (.int .i64 a0_2)) (ds := []) #[false, false, false, false, false, false, false, false, false, false, false] (by kernel_rfl) rfl rfl ⟨(blk_cell BK390101.out 0).trans rfl, (blk_cell BK390101.out 1).trans rfl, (blk_cell BK390101.out 2).trans rfl⟩ (fun hHeld => ?_); refine with_tabW larderref03_PrintDate.tab12 larderref03_PrintDate.bits12 (fun HT_ HW_ => ?_)
                  generalize w39.drew = w40 at BK390101 BK390107 HB hHeld ⊢
                  refine pure_ (i := 0) (N := some 45) (v := ?_) (a' := ?_) #[true, false, false, false, false, false, false, false, false, false, false] rfl rfl (any_of HT_.out (by kernel_rfl)) (fun _ _ _ h => h) (Or.inl ⟨by rfl, ?_⟩) ?_ ?_
                  rotate_left
                  · intro w'
                    go_simp
                    with_reducible rfl
                  rotate_left
                  · simp only [Act.put, List.setIfInBounds_toArray, List.set_cons_zero, List.set_cons_succ, i64_w, i32_w]
                    rfl
                  refine pure_ (i := 1) (N := some 46) (v := ?_) (a' := ?_) #[true, true, false, false, false, false, false, false, false, false, false] rfl rfl (any_of HT_.out (by kernel_rfl)) (fun _ _ _ h => h) (Or.inl ⟨by rfl, ?_⟩) ?_ ?_
                  rotate_left
                  · intro w'
                    go_simp
                    with_reducible rfl
                  rotate_left
                  · simp only [Act.put, List.setIfInBounds_toArray, List.set_cons_zero, List.set_cons_succ, i64_w, i32_w]
                    rfl
                  refine pure_ (i := 5) (N := some 50) (v := ?_) (a' := ?_) #[true, true, false, false, false, true, false, false, false, false, false] rfl rfl (any_of HT_.out (by kernel_rfl)) (fun _ _ _ h => h) (Or.inl ⟨by rfl, ?_⟩) ?_ ?_
                  rotate_left
                  · intro w'
                    go_simp
                    with_reducible rfl
                  rotate_left
                  · simp only [Act.put, List.setIfInBounds_toArray, List.set_cons_zero, List.set_cons_succ, i64_w, i32_w]
                    rfl
                  refine take_ (i := 2) (N := some 47) (v := ?_) (a' := ?_) #[true, true, true, false, false, true, false, false, false, false, false] rfl rfl (take_ofW HT_.out HW_.out (by kernel_rfl)) (fun _ _ _ h => h) (Or.inl ⟨by rfl, ?_⟩) hHeld ?_ ?_
                  rotate_left
                  · rintro w' ⟨s0, s1, s2⟩
                    go_simp
                    with_reducible rfl
                  rotate_left
                  · simp only [Act.put, List.setIfInBounds_toArray, List.set_cons_zero, List.set_cons_succ, i64_w, i32_w]
                    rfl
                  refine take_ (i := 6) (N := some 51) (v := ?_) (a' := ?_) #[true, true, true, false, false, true, true, false, false, false, false] rfl rfl (take_ofW HT_.out HW_.out (by kernel_rfl)) (fun _ _ _ h => h) (Or.inl ⟨by rfl, ?_⟩) hHeld ?_ ?_
                  rotate_left
                  · rintro w' ⟨s0, s1, s2⟩
                    go_simp
                    with_reducible rfl
                  rotate_left
                  · simp only [Act.put, List.setIfInBounds_toArray, List.set_cons_zero, List.set_cons_succ, i64_w, i32_w]
                    rfl
                  refine one_ (i := 3) (N := some 48) #[true, true, true, true, false, true, true, false, false, false, false] rfl rfl (one_of HT_.out (by kernel_rfl)) (by decide) (fun K hK => ?_)
                  refine goes_ Tryd.func41 (by kernel_rfl) rfl #[.int .i64 a0_1, .int .i64 2] (by rfl) rfl rfl (by (try simp only [List.map_toArray, List.map_cons, List.map_nil]); first | done | rfl | (simp only [List.length_drop, List.length_take]; rfl)) ?_
                  with_reducible refine (larderref03_pad.calls kj4 a0_1 2 t390111 _ A30.out).mono ?_
                  rintro e w41 ⟨rfl, hb⟩
                  refine ⟨_, rfl, ?_⟩
                  have n0_ := Aside0.mk (blk_below (g := gb390101) (o := .cells #[.int .i64 a0_0, .int .i64 a0_1, .int .i64 a0_2] 23 (0, 0)) (by (with_reducible repeat (first | refine blk_drewN ?_ _ | refine blk_drew ?_ | refine blk_alloc ?_ _)); exact BK390101.out) hb)
                  have n1_ := Aside0.mk (blk_below (g := gb390107) (o := .cells #[.int .i64 t390104, .int .i64 t390105, .int .i64 t390106] 86 (0, 0)) (by (with_reducible repeat (first | refine blk_drewN ?_ _ | refine blk_drew ?_ | refine blk_alloc ?_ _)); exact BK390107.out) hb)
                  have n2_ := Aside0.mk (below_step (by repeat (first | (with_reducible first | exact HB.out | apply below_alloc | apply pw_below_drewN | apply below_drew1 | refine below_set ?_ GE390101.out | refine below_set ?_ GE390107.out) | exact HB.out)) hb)
                  clear BK390101
                  clear BK390107
                  clear HB
                  have BK390101 := n0_
                  have BK390107 := n1_
                  have HB := n2_
                  clear n0_ n1_ n2_
                  (try clear hb)
                  (try clear hb2)
                  (try clear hk)
                  (try clear hi)
                  refine hK.out _ _ ⟨(blk_cell BK390101.out 0).trans rfl, (blk_cell BK390101.out 1).trans rfl, (blk_cell BK390101.out 2).trans rfl⟩ (fun hHeld => ?_)
                  clear hK K
                  refine norm_ (a' := ?_) ?_ ?_
                  rotate_left
                  · show Act.put _ (some 48) _ = _
                    simp only [Act.put, List.setIfInBounds_toArray, List.set_cons_zero, List.set_cons_succ, i64_w, i32_w]
                    rfl
                  refine pure_ (i := 4) (N := some 49) (v := ?_) (a' := ?_) #[true, true, true, true, true, true, true, false, false, false, false] rfl rfl (any_of HT_.out (by kernel_rfl)) (fun _ _ _ h => h) (Or.inl ⟨by rfl, ?_⟩) ?_ ?_
                  rotate_left
                  · intro w'
                    go_simp
                    with_reducible rfl
                  rotate_left
                  · simp only [Act.put, List.setIfInBounds_toArray, List.set_cons_zero, List.set_cons_succ, i64_w, i32_w]
                    rfl
                  refine one_ (i := 7) (N := some 52) #[true, true, true, true, true, true, true, true, false, false, false] rfl rfl (one_of HT_.out (by kernel_rfl)) (by decide) (fun K hK => ?_)
                  refine goes_ Tryd.func41 (by kernel_rfl) rfl #[.int .i64 a0_2, .int .i64 2] (by rfl) rfl rfl (by (try simp only [List.map_toArray, List.map_cons, List.map_nil]); first | done | rfl | (simp only [List.length_drop, List.length_take]; rfl)) ?_
                  with_reducible refine (larderref03_pad.calls kj4 a0_2 2 t390112 _ A32.out).mono ?_
                  rintro e w42 ⟨rfl, hb⟩
                  refine ⟨_, rfl, ?_⟩
                  have n0_ := Aside0.mk (blk_below (g := gb390101) (o := .cells #[.int .i64 a0_0, .int .i64 a0_1, .int .i64 a0_2] 23 (0, 0)) (by (with_reducible repeat (first | refine blk_drewN ?_ _ | refine blk_drew ?_ | refine blk_alloc ?_ _)); exact BK390101.out) hb)
                  have n1_ := Aside0.mk (blk_below (g := gb390107) (o := .cells #[.int .i64 t390104, .int .i64 t390105, .int .i64 t390106] 86 (0, 0)) (by (with_reducible repeat (first | refine blk_drewN ?_ _ | refine blk_drew ?_ | refine blk_alloc ?_ _)); exact BK390107.out) hb)
                  have n2_ := Aside0.mk (below_step (by repeat (first | (with_reducible first | exact HB.out | apply below_alloc | apply pw_below_drewN | apply below_drew1 | refine below_set ?_ GE390101.out | refine below_set ?_ GE390107.out) | exact HB.out)) hb)
                  clear BK390101
                  clear BK390107
                  clear HB
                  have BK390101 := n0_
                  have BK390107 := n1_
                  have HB := n2_
                  clear n0_ n1_ n2_
                  (try clear hb)
                  (try clear hb2)
                  (try clear hk)
                  (try clear hi)
                  refine hK.out _ _ ⟨(blk_cell BK390101.out 0).trans rfl, (blk_cell BK390101.out 1).trans rfl, (blk_cell BK390101.out 2).trans rfl⟩ (fun hHeld => ?_)
                  clear hK K
                  refine norm_ (a' := ?_) ?_ ?_
                  rotate_left
                  · show Act.put _ (some 52) _ = _
                    simp only [Act.put, List.setIfInBounds_toArray, List.set_cons_zero, List.set_cons_succ, i64_w, i32_w]
                    rfl
                  refine pure_ (i := 8) (N := some 53) (v := ?_) (a' := ?_) #[true, true, true, true, true, true, true, true, true, false, false] rfl rfl (any_of HT_.out (by kernel_rfl)) (fun _ _ _ h => h) (Or.inl ⟨by rfl, ?_⟩) ?_ ?_
                  rotate_left
                  · intro w'
                    go_simp
                    with_reducible rfl
                  rotate_left
                  · simp only [Act.put, List.setIfInBounds_toArray, List.set_cons_zero, List.set_cons_succ, i64_w, i32_w]
                    rfl
                  refine pure_ (i := 9) (N := some 4) (v := ?_) (a' := ?_) #[true, true, true, true, true, true, true, true, true, true, false] rfl rfl (any_of HT_.out (by kernel_rfl)) (fun _ _ _ h => h) (Or.inl ⟨by rfl, ?_⟩) ?_ ?_
                  rotate_left
                  · intro w'
                    go_simp
                    with_reducible rfl
                  rotate_left
                  · simp only [Act.put, List.setIfInBounds_toArray, List.set_cons_zero, List.set_cons_succ, i64_w, i32_w]
                    rfl
                  refine pure_ (i := 10) (N := some 5) (v := ?_) (a' := ?_) #[true, true, true, true, true, true, true, true, true, true, true] rfl rfl (any_of HT_.out (by kernel_rfl)) (fun _ _ _ h => h) (Or.inl ⟨by rfl, ?_⟩) ?_ ?_
                  rotate_left
                  · intro w'
                    go_simp
                    with_reducible rfl
                  rotate_left
                  · simp only [Act.put, List.setIfInBounds_toArray, List.set_cons_zero, List.set_cons_succ, i64_w, i32_w]
                    rfl
                  refine done_ (done_of HT_.out (by kernel_rfl)) ?_
                  try go_wp2
                  go_ret2
                  exact ⟨by first | rfl | (simp [errW_none, errW_some] <;> rfl) | (simp [*, errW_none, errW_some] <;> rfl), by repeat (first | (with_reducible first | exact HB.out | apply below_alloc | apply pw_below_drewN | apply below_drew1 | refine below_set ?_ GE390101.out | refine below_set ?_ GE390107.out) | exact HB.out)⟩
                · rw [if_neg c33] at H
                  exact absurd H (by simp)
              · rw [if_neg c31] at H
                exact absurd H (by simp)
            · rw [if_neg c29] at H
              have c29b0 : (a1 == 1) = false := beq_eq_false_iff_ne.mpr c29
              have c29b1 : (a1 != 1) = true := bne_iff_ne.mpr c29
              by_cases c43 : a1 = 2
              · rw [if_pos c43] at H
                have c43b0 : (a1 == 2) = true := beq_iff_eq.mpr c43
                have c43b1 : (a1 != 2) = false := bne_eq_false_iff_eq.mpr c43
                clear c43
                by_cases c44 : t390108.size + 1 ≤ 9223372036854775807
                · rw [if_pos c44] at H
                  have c44b0 := eq_true c44
                  have c44b1 : decide (t390108.size + 1 ≤ 9223372036854775807) = true := decide_eq_true c44
                  try have c44b2 : (9223372036854775807 < t390108.size + 1) = False := eq_false (Nat.not_lt.2 c44)
                  replace H := Option.bind_eq_some_iff.mp H
                  obtain ⟨t390113, A450, H⟩ := H
                  replace H : ((larderref03_pad.f kj4 (wrap64 ((wrap64 (t390102 - t390113)) + 1)) 3).bind fun t390114 => (if t390108.size + 1 + t390114.size ≤ 9223372036854775807 then (some ((t390108 ++ (⟨#[45]⟩ : ByteArray)) ++ t390114, 0)) else (none))) = some (r1, r2) := H
                  have A45 := Aside0.mk A450
                  clear A450
                  replace H := Option.bind_eq_some_iff.mp H
                  obtain ⟨t390114, A460, H⟩ := H
                  replace H : (if t390108.size + 1 + t390114.size ≤ 9223372036854775807 then (some ((t390108 ++ (⟨#[45]⟩ : ByteArray)) ++ t390114, 0)) else (none)) = some (r1, r2) := H
                  have A46 := Aside0.mk A460
                  clear A460
                  by_cases c47 : t390108.size + 1 + t390114.size ≤ 9223372036854775807
                  · rw [if_pos c47] at H
                    have c47b0 := eq_true c47
                    have c47b1 : decide (t390108.size + 1 + t390114.size ≤ 9223372036854775807) = true := decide_eq_true c47
                    try have c47b2 : (9223372036854775807 < t390108.size + 1 + t390114.size) = False := eq_false (Nat.not_lt.2 c47)
                    simp only [Option.some.injEq, Prod.mk.injEq] at H
                    obtain ⟨rfl, rfl⟩ := H
                    go_wp2_with (first | ((with_reducible refine gate_callee (f := 75) rfl ?_); refine goesL_ (some 25) rfl rfl Tryd.func75 (by kernel_rfl) rfl #[.int .i64 t390102] rfl (by (try simp only [List.map_toArray, List.map_cons, List.map_nil]); first | done | rfl | (simp only [List.length_drop, List.length_take]; rfl)) ?_; (with_reducible refine (larderref03_week.calls kj4 t390102 t390104 t390105 t390106 _ A11.out).mono ?_); rintro e w48 ⟨rfl, hb⟩; refine ⟨_, rfl, ?_⟩; have n0_ := Aside0.mk (blk_below (g := gb390101) (o := .cells #[.int .i64 a0_0, .int .i64 a0_1, .int .i64 a0_2] 23 (0, 0)) (by (with_reducible repeat (first | refine blk_drewN ?_ _ | refine blk_drew ?_ | refine blk_alloc ?_ _)); exact BK390101.out) hb); have n1_ := Aside0.mk (below_step (by repeat (first | (with_reducible first | exact HB.out | apply below_alloc | apply pw_below_drewN | apply below_drew1 | refine below_set ?_ GE390101.out) | exact HB.out)) hb); clear BK390101; clear HB; have BK390101 := n0_; have HB := n1_; clear n0_ n1_; (try clear hb); (try clear hb2); (try clear hk); (try clear hi)) | ((with_reducible refine gate_dst (N := 8) rfl ?_); refine box_event ?hg (N := 8) ?hd (cs := #[.int .i64 0, .int .i64 0, .int .i64 0]) (t := 86) ?hr ?_; (case hd => rfl); (case hg => rfl); (case hr => first | (go_simp; done) | (go_simp; rfl)); intro gb390107 hg w49 hbox hb; have n0_ := Aside0.mk (blk_below (g := gb390101) (o := .cells #[.int .i64 a0_0, .int .i64 a0_1, .int .i64 a0_2] 23 (0, 0)) (by (with_reducible repeat (first | refine blk_drewN ?_ _ | refine blk_drew ?_ | refine blk_alloc ?_ _)); exact BK390101.out) hb); have n1_ := Aside0.mk (below_step (by repeat (first | (with_reducible first | exact HB.out | apply below_alloc | apply pw_below_drewN | apply below_drew1 | refine below_set ?_ GE390101.out) | exact HB.out)) hb); have n2_ := Aside0.mk (hbox); have n3_ := Aside0.mk ((by rw [hg]; exact (below_size (by repeat (first | (with_reducible first | exact HB.out | apply below_alloc | apply pw_below_drewN | apply below_drew1 | refine below_set ?_ GE390101.out) | exact HB.out))) : w.heap.size ≤ gb390107)); have n4_ := Aside0.mk ((by rw [hg]; exact (below_size (by repeat (first | (with_reducible first | exact HB.out | apply below_alloc | apply pw_below_drewN | apply below_drew1 | refine below_set ?_ GE390101.out) | exact HB.out))) : w.heap.size ≤ gb390107)); have n5_ := Aside0.mk ((by rw [hg]; exact Nat.ne_of_lt (blk_lt (g := gb390101) (o := .cells #[.int .i64 a0_0, .int .i64 a0_1, .int .i64 a0_2] 23 (0, 0)) (by (with_reducible repeat (first | refine blk_drewN ?_ _ | refine blk_drew ?_ | refine blk_alloc ?_ _)); exact BK390101.out)) : gb390101 ≠ gb390107)); have n6_ := Aside0.mk ((by rw [hg]; exact Nat.ne_of_gt (blk_lt (g := gb390101) (o := .cells #[.int .i64 a0_0, .int .i64 a0_1, .int .i64 a0_2] 23 (0, 0)) (by (with_reducible repeat (first | refine blk_drewN ?_ _ | refine blk_drew ?_ | refine blk_alloc ?_ _)); exact BK390101.out)) : gb390107 ≠ gb390101)); clear BK390101; clear HB; have BK390101 := n0_; have HB := n1_; have BK390107 := n2_; have GW390107 := n3_; have GE390107 := n4_; have NB390101_390107 := n5_; have NB390107_390101 := n6_; clear n0_ n1_ n2_ n3_ n4_ n5_ n6_; clear hb hbox hg; have hnb50 := NB390107_390101.out; have hnc50 := NB390101_390107.out; have hcz51_0 : w49.cell? ⟨gb390107, 0, none⟩ = some (.int .i64 0) := (blk_cell BK390107.out 0).trans rfl; have hcz51_1 : w49.cell? ⟨gb390107, 1, none⟩ = some (.int .i64 0) := (blk_cell BK390107.out 1).trans rfl; have hcz51_2 : w49.cell? ⟨gb390107, 2, none⟩ = some (.int .i64 0) := (blk_cell BK390107.out 2).trans rfl; have hfz51_0 := blk_frozen BK390107.out 0; have hfz51_1 := blk_frozen BK390107.out 1; have hfz51_2 := blk_frozen BK390107.out 2; have hcz52_0 : w49.cell? ⟨gb390101, 0, none⟩ = some (.int .i64 a0_0) := (blk_cell BK390101.out 0).trans rfl; have hcz52_1 : w49.cell? ⟨gb390101, 1, none⟩ = some (.int .i64 a0_1) := (blk_cell BK390101.out 1).trans rfl; have hcz52_2 : w49.cell? ⟨gb390101, 2, none⟩ = some (.int .i64 a0_2) := (blk_cell BK390101.out 2).trans rfl; have hfz52_0 := blk_frozen BK390101.out 0; have hfz52_1 := blk_frozen BK390101.out 1; have hfz52_2 := blk_frozen BK390101.out 2) | ((with_reducible refine gate_callee (f := 41) rfl ?_); refine goesL_ (some 28) rfl rfl Tryd.func41 (by kernel_rfl) rfl #[.int .i64 a0_0, .int .i64 4] rfl (by (try simp only [List.map_toArray, List.map_cons, List.map_nil]); first | done | rfl | (simp only [List.length_drop, List.length_take]; rfl)) ?_; (with_reducible refine (larderref03_pad.calls kj4 a0_0 4 t390108 _ A12.out).mono ?_); rintro e w53 ⟨rfl, hb⟩; refine ⟨_, rfl, ?_⟩; have n0_ := Aside0.mk (blk_below (g := gb390101) (o := .cells #[.int .i64 a0_0, .int .i64 a0_1, .int .i64 a0_2] 23 (0, 0)) (by (with_reducible repeat (first | refine blk_drewN ?_ _ | refine blk_drew ?_ | refine blk_alloc ?_ _)); refine blk_far ?_ NB390101_390107.out _; (with_reducible repeat (first | refine blk_drewN ?_ _ | refine blk_drew ?_ | refine blk_alloc ?_ _)); refine blk_far ?_ NB390101_390107.out _; (with_reducible repeat (first | refine blk_drewN ?_ _ | refine blk_drew ?_ | refine blk_alloc ?_ _)); refine blk_far ?_ NB390101_390107.out _; (with_reducible repeat (first | refine blk_drewN ?_ _ | refine blk_drew ?_ | refine blk_alloc ?_ _)); exact BK390101.out) hb); have n1_ := Aside0.mk (blk_below (g := gb390107) (o := .cells #[.int .i64 t390104, .int .i64 t390105, .int .i64 t390106] 86 (0, 0)) (by (with_reducible repeat (first | refine blk_drewN ?_ _ | refine blk_drew ?_ | refine blk_alloc ?_ _)); refine blk_put (cs := #[.int .i64 t390104, .int .i64 t390105, .int .i64 0]) ?_ 2 _ rfl; (with_reducible repeat (first | refine blk_drewN ?_ _ | refine blk_drew ?_ | refine blk_alloc ?_ _)); refine blk_put (cs := #[.int .i64 t390104, .int .i64 0, .int .i64 0]) ?_ 1 _ rfl; (with_reducible repeat (first | refine blk_drewN ?_ _ | refine blk_drew ?_ | refine blk_alloc ?_ _)); refine blk_put (cs := #[.int .i64 0, .int .i64 0, .int .i64 0]) ?_ 0 _ rfl; (with_reducible repeat (first | refine blk_drewN ?_ _ | refine blk_drew ?_ | refine blk_alloc ?_ _)); exact BK390107.out) hb); have n2_ := Aside0.mk (below_step (by repeat (first | (with_reducible first | exact HB.out | apply below_alloc | apply pw_below_drewN | apply below_drew1 | refine below_set ?_ GE390101.out | refine below_set ?_ GE390107.out) | exact HB.out)) hb); clear BK390101; clear BK390107; clear HB; have BK390101 := n0_; have BK390107 := n1_; have HB := n2_; clear n0_ n1_ n2_; (try clear hb); (try clear hb2); (try clear hk); (try clear hi); have hcz54_0 : w53.cell? ⟨gb390101, 0, none⟩ = some (.int .i64 a0_0) := (blk_cell BK390101.out 0).trans rfl; have hcz54_1 : w53.cell? ⟨gb390101, 1, none⟩ = some (.int .i64 a0_1) := (blk_cell BK390101.out 1).trans rfl; have hcz54_2 : w53.cell? ⟨gb390101, 2, none⟩ = some (.int .i64 a0_2) := (blk_cell BK390101.out 2).trans rfl; have hfz54_0 := blk_frozen BK390101.out 0; have hfz54_1 := blk_frozen BK390101.out 1; have hfz54_2 := blk_frozen BK390101.out 2) | ((with_reducible refine gate_callee (f := 48) rfl ?_); refine goesL_ (some 61) rfl rfl Tryd.func48 (by kernel_rfl) rfl #[.int .i64 a0_0] rfl (by (try simp only [List.map_toArray, List.map_cons, List.map_nil]); first | done | rfl | (simp only [List.length_drop, List.length_take]; rfl)) ?_; (with_reducible refine (larderref03_ahead.calls a0_0 t390113 _ A45.out).mono ?_); rintro e w' ⟨rfl, ⟨nd, rfl⟩⟩; refine ⟨_, rfl, ?_⟩) | ((with_reducible refine gate_callee (f := 41) rfl ?_); refine goesL_ (some 64) rfl rfl Tryd.func41 (by kernel_rfl) rfl #[.int .i64 (wrap64 ((wrap64 (t390102 - t390113)) + 1)), .int .i64 3] rfl (by (try simp only [List.map_toArray, List.map_cons, List.map_nil]); first | done | rfl | (simp only [List.length_drop, List.length_take]; rfl)) ?_; (with_reducible refine (larderref03_pad.calls kj4 (wrap64 ((wrap64 (t390102 - t390113)) + 1)) 3 t390114 _ A46.out).mono ?_); rintro e w55 ⟨rfl, hb⟩; refine ⟨_, rfl, ?_⟩; have n0_ := Aside0.mk (blk_below (g := gb390101) (o := .cells #[.int .i64 a0_0, .int .i64 a0_1, .int .i64 a0_2] 23 (0, 0)) (by (with_reducible repeat (first | refine blk_drewN ?_ _ | refine blk_drew ?_ | refine blk_alloc ?_ _)); exact BK390101.out) hb); have n1_ := Aside0.mk (blk_below (g := gb390107) (o := .cells #[.int .i64 t390104, .int .i64 t390105, .int .i64 t390106] 86 (0, 0)) (by (with_reducible repeat (first | refine blk_drewN ?_ _ | refine blk_drew ?_ | refine blk_alloc ?_ _)); exact BK390107.out) hb); have n2_ := Aside0.mk (below_step (by repeat (first | (with_reducible first | exact HB.out | apply below_alloc | apply pw_below_drewN | apply below_drew1 | refine below_set ?_ GE390101.out | refine below_set ?_ GE390107.out) | exact HB.out)) hb); clear BK390101; clear BK390107; clear HB; have BK390101 := n0_; have BK390107 := n1_; have HB := n2_; clear n0_ n1_ n2_; (try clear hb); (try clear hb2); (try clear hk); (try clear hi)))
                    go_ret2
                    exact ⟨by first | rfl | (simp [errW_none, errW_some] <;> rfl) | (simp [*, errW_none, errW_some] <;> rfl), by repeat (first | (with_reducible first | exact HB.out | apply below_alloc | apply pw_below_drewN | apply below_drew1 | refine below_set ?_ GE390101.out | refine below_set ?_ GE390107.out) | exact HB.out)⟩
                  · rw [if_neg c47] at H
                    exact absurd H (by simp)
                · rw [if_neg c44] at H
                  exact absurd H (by simp)
              · rw [if_neg c43] at H
                have c43b0 : (a1 == 2) = false := beq_eq_false_iff_ne.mpr c43
                have c43b1 : (a1 != 2) = true := bne_iff_ne.mpr c43
                by_cases c56 : a1 = 3
                · rw [if_pos c56] at H
                  have c56b0 : (a1 == 3) = true := beq_iff_eq.mpr c56
                  have c56b1 : (a1 != 3) = false := bne_eq_false_iff_eq.mpr c56
                  clear c56
                  replace H := Option.bind_eq_some_iff.mp H
                  obtain ⟨t390115, A570, H⟩ := H
                  replace H : ((larderref03_pad.f kj4 (wrap64 ((wrap64 (t390102 - t390115)) + 1)) 3).bind fun t390116 => (if t390108.size + t390116.size ≤ 9223372036854775807 then (some (t390108 ++ t390116, 0)) else (none))) = some (r1, r2) := H
                  have A57 := Aside0.mk A570
                  clear A570
                  replace H := Option.bind_eq_some_iff.mp H
                  obtain ⟨t390116, A580, H⟩ := H
                  replace H : (if t390108.size + t390116.size ≤ 9223372036854775807 then (some (t390108 ++ t390116, 0)) else (none)) = some (r1, r2) := H
                  have A58 := Aside0.mk A580
                  clear A580
                  by_cases c59 : t390108.size + t390116.size ≤ 9223372036854775807
                  · rw [if_pos c59] at H
                    have c59b0 := eq_true c59
                    have c59b1 : decide (t390108.size + t390116.size ≤ 9223372036854775807) = true := decide_eq_true c59
                    try have c59b2 : (9223372036854775807 < t390108.size + t390116.size) = False := eq_false (Nat.not_lt.2 c59)
                    simp only [Option.some.injEq, Prod.mk.injEq] at H
                    obtain ⟨rfl, rfl⟩ := H
                    go_wp2_with (first | ((with_reducible refine gate_callee (f := 75) rfl ?_); refine goesL_ (some 25) rfl rfl Tryd.func75 (by kernel_rfl) rfl #[.int .i64 t390102] rfl (by (try simp only [List.map_toArray, List.map_cons, List.map_nil]); first | done | rfl | (simp only [List.length_drop, List.length_take]; rfl)) ?_; (with_reducible refine (larderref03_week.calls kj4 t390102 t390104 t390105 t390106 _ A11.out).mono ?_); rintro e w60 ⟨rfl, hb⟩; refine ⟨_, rfl, ?_⟩; have n0_ := Aside0.mk (blk_below (g := gb390101) (o := .cells #[.int .i64 a0_0, .int .i64 a0_1, .int .i64 a0_2] 23 (0, 0)) (by (with_reducible repeat (first | refine blk_drewN ?_ _ | refine blk_drew ?_ | refine blk_alloc ?_ _)); exact BK390101.out) hb); have n1_ := Aside0.mk (below_step (by repeat (first | (with_reducible first | exact HB.out | apply below_alloc | apply pw_below_drewN | apply below_drew1 | refine below_set ?_ GE390101.out) | exact HB.out)) hb); clear BK390101; clear HB; have BK390101 := n0_; have HB := n1_; clear n0_ n1_; (try clear hb); (try clear hb2); (try clear hk); (try clear hi)) | ((with_reducible refine gate_dst (N := 8) rfl ?_); refine box_event ?hg (N := 8) ?hd (cs := #[.int .i64 0, .int .i64 0, .int .i64 0]) (t := 86) ?hr ?_; (case hd => rfl); (case hg => rfl); (case hr => first | (go_simp; done) | (go_simp; rfl)); intro gb390107 hg w61 hbox hb; have n0_ := Aside0.mk (blk_below (g := gb390101) (o := .cells #[.int .i64 a0_0, .int .i64 a0_1, .int .i64 a0_2] 23 (0, 0)) (by (with_reducible repeat (first | refine blk_drewN ?_ _ | refine blk_drew ?_ | refine blk_alloc ?_ _)); exact BK390101.out) hb); have n1_ := Aside0.mk (below_step (by repeat (first | (with_reducible first | exact HB.out | apply below_alloc | apply pw_below_drewN | apply below_drew1 | refine below_set ?_ GE390101.out) | exact HB.out)) hb); have n2_ := Aside0.mk (hbox); have n3_ := Aside0.mk ((by rw [hg]; exact (below_size (by repeat (first | (with_reducible first | exact HB.out | apply below_alloc | apply pw_below_drewN | apply below_drew1 | refine below_set ?_ GE390101.out) | exact HB.out))) : w.heap.size ≤ gb390107)); have n4_ := Aside0.mk ((by rw [hg]; exact (below_size (by repeat (first | (with_reducible first | exact HB.out | apply below_alloc | apply pw_below_drewN | apply below_drew1 | refine below_set ?_ GE390101.out) | exact HB.out))) : w.heap.size ≤ gb390107)); have n5_ := Aside0.mk ((by rw [hg]; exact Nat.ne_of_lt (blk_lt (g := gb390101) (o := .cells #[.int .i64 a0_0, .int .i64 a0_1, .int .i64 a0_2] 23 (0, 0)) (by (with_reducible repeat (first | refine blk_drewN ?_ _ | refine blk_drew ?_ | refine blk_alloc ?_ _)); exact BK390101.out)) : gb390101 ≠ gb390107)); have n6_ := Aside0.mk ((by rw [hg]; exact Nat.ne_of_gt (blk_lt (g := gb390101) (o := .cells #[.int .i64 a0_0, .int .i64 a0_1, .int .i64 a0_2] 23 (0, 0)) (by (with_reducible repeat (first | refine blk_drewN ?_ _ | refine blk_drew ?_ | refine blk_alloc ?_ _)); exact BK390101.out)) : gb390107 ≠ gb390101)); clear BK390101; clear HB; have BK390101 := n0_; have HB := n1_; have BK390107 := n2_; have GW390107 := n3_; have GE390107 := n4_; have NB390101_390107 := n5_; have NB390107_390101 := n6_; clear n0_ n1_ n2_ n3_ n4_ n5_ n6_; clear hb hbox hg; have hnb62 := NB390107_390101.out; have hnc62 := NB390101_390107.out; have hcz63_0 : w61.cell? ⟨gb390107, 0, none⟩ = some (.int .i64 0) := (blk_cell BK390107.out 0).trans rfl; have hcz63_1 : w61.cell? ⟨gb390107, 1, none⟩ = some (.int .i64 0) := (blk_cell BK390107.out 1).trans rfl; have hcz63_2 : w61.cell? ⟨gb390107, 2, none⟩ = some (.int .i64 0) := (blk_cell BK390107.out 2).trans rfl; have hfz63_0 := blk_frozen BK390107.out 0; have hfz63_1 := blk_frozen BK390107.out 1; have hfz63_2 := blk_frozen BK390107.out 2; have hcz64_0 : w61.cell? ⟨gb390101, 0, none⟩ = some (.int .i64 a0_0) := (blk_cell BK390101.out 0).trans rfl; have hcz64_1 : w61.cell? ⟨gb390101, 1, none⟩ = some (.int .i64 a0_1) := (blk_cell BK390101.out 1).trans rfl; have hcz64_2 : w61.cell? ⟨gb390101, 2, none⟩ = some (.int .i64 a0_2) := (blk_cell BK390101.out 2).trans rfl; have hfz64_0 := blk_frozen BK390101.out 0; have hfz64_1 := blk_frozen BK390101.out 1; have hfz64_2 := blk_frozen BK390101.out 2) | ((with_reducible refine gate_callee (f := 41) rfl ?_); refine goesL_ (some 28) rfl rfl Tryd.func41 (by kernel_rfl) rfl #[.int .i64 a0_0, .int .i64 4] rfl (by (try simp only [List.map_toArray, List.map_cons, List.map_nil]); first | done | rfl | (simp only [List.length_drop, List.length_take]; rfl)) ?_; (with_reducible refine (larderref03_pad.calls kj4 a0_0 4 t390108 _ A12.out).mono ?_); rintro e w65 ⟨rfl, hb⟩; refine ⟨_, rfl, ?_⟩; have n0_ := Aside0.mk (blk_below (g := gb390101) (o := .cells #[.int .i64 a0_0, .int .i64 a0_1, .int .i64 a0_2] 23 (0, 0)) (by (with_reducible repeat (first | refine blk_drewN ?_ _ | refine blk_drew ?_ | refine blk_alloc ?_ _)); refine blk_far ?_ NB390101_390107.out _; (with_reducible repeat (first | refine blk_drewN ?_ _ | refine blk_drew ?_ | refine blk_alloc ?_ _)); refine blk_far ?_ NB390101_390107.out _; (with_reducible repeat (first | refine blk_drewN ?_ _ | refine blk_drew ?_ | refine blk_alloc ?_ _)); refine blk_far ?_ NB390101_390107.out _; (with_reducible repeat (first | refine blk_drewN ?_ _ | refine blk_drew ?_ | refine blk_alloc ?_ _)); exact BK390101.out) hb); have n1_ := Aside0.mk (blk_below (g := gb390107) (o := .cells #[.int .i64 t390104, .int .i64 t390105, .int .i64 t390106] 86 (0, 0)) (by (with_reducible repeat (first | refine blk_drewN ?_ _ | refine blk_drew ?_ | refine blk_alloc ?_ _)); refine blk_put (cs := #[.int .i64 t390104, .int .i64 t390105, .int .i64 0]) ?_ 2 _ rfl; (with_reducible repeat (first | refine blk_drewN ?_ _ | refine blk_drew ?_ | refine blk_alloc ?_ _)); refine blk_put (cs := #[.int .i64 t390104, .int .i64 0, .int .i64 0]) ?_ 1 _ rfl; (with_reducible repeat (first | refine blk_drewN ?_ _ | refine blk_drew ?_ | refine blk_alloc ?_ _)); refine blk_put (cs := #[.int .i64 0, .int .i64 0, .int .i64 0]) ?_ 0 _ rfl; (with_reducible repeat (first | refine blk_drewN ?_ _ | refine blk_drew ?_ | refine blk_alloc ?_ _)); exact BK390107.out) hb); have n2_ := Aside0.mk (below_step (by repeat (first | (with_reducible first | exact HB.out | apply below_alloc | apply pw_below_drewN | apply below_drew1 | refine below_set ?_ GE390101.out | refine below_set ?_ GE390107.out) | exact HB.out)) hb); clear BK390101; clear BK390107; clear HB; have BK390101 := n0_; have BK390107 := n1_; have HB := n2_; clear n0_ n1_ n2_; (try clear hb); (try clear hb2); (try clear hk); (try clear hi); have hcz66_0 : w65.cell? ⟨gb390101, 0, none⟩ = some (.int .i64 a0_0) := (blk_cell BK390101.out 0).trans rfl; have hcz66_1 : w65.cell? ⟨gb390101, 1, none⟩ = some (.int .i64 a0_1) := (blk_cell BK390101.out 1).trans rfl; have hcz66_2 : w65.cell? ⟨gb390101, 2, none⟩ = some (.int .i64 a0_2) := (blk_cell BK390101.out 2).trans rfl; have hfz66_0 := blk_frozen BK390101.out 0; have hfz66_1 := blk_frozen BK390101.out 1; have hfz66_2 := blk_frozen BK390101.out 2) | ((with_reducible refine gate_callee (f := 48) rfl ?_); refine goesL_ (some 72) rfl rfl Tryd.func48 (by kernel_rfl) rfl #[.int .i64 a0_0] rfl (by (try simp only [List.map_toArray, List.map_cons, List.map_nil]); first | done | rfl | (simp only [List.length_drop, List.length_take]; rfl)) ?_; (with_reducible refine (larderref03_ahead.calls a0_0 t390115 _ A57.out).mono ?_); rintro e w' ⟨rfl, ⟨nd, rfl⟩⟩; refine ⟨_, rfl, ?_⟩) | ((with_reducible refine gate_callee (f := 41) rfl ?_); refine goesL_ (some 75) rfl rfl Tryd.func41 (by kernel_rfl) rfl #[.int .i64 (wrap64 ((wrap64 (t390102 - t390115)) + 1)), .int .i64 3] rfl (by (try simp only [List.map_toArray, List.map_cons, List.map_nil]); first | done | rfl | (simp only [List.length_drop, List.length_take]; rfl)) ?_; (with_reducible refine (larderref03_pad.calls kj4 (wrap64 ((wrap64 (t390102 - t390115)) + 1)) 3 t390116 _ A58.out).mono ?_); rintro e w67 ⟨rfl, hb⟩; refine ⟨_, rfl, ?_⟩; have n0_ := Aside0.mk (blk_below (g := gb390101) (o := .cells #[.int .i64 a0_0, .int .i64 a0_1, .int .i64 a0_2] 23 (0, 0)) (by (with_reducible repeat (first | refine blk_drewN ?_ _ | refine blk_drew ?_ | refine blk_alloc ?_ _)); exact BK390101.out) hb); have n1_ := Aside0.mk (blk_below (g := gb390107) (o := .cells #[.int .i64 t390104, .int .i64 t390105, .int .i64 t390106] 86 (0, 0)) (by (with_reducible repeat (first | refine blk_drewN ?_ _ | refine blk_drew ?_ | refine blk_alloc ?_ _)); exact BK390107.out) hb); have n2_ := Aside0.mk (below_step (by repeat (first | (with_reducible first | exact HB.out | apply below_alloc | apply pw_below_drewN | apply below_drew1 | refine below_set ?_ GE390101.out | refine below_set ?_ GE390107.out) | exact HB.out)) hb); clear BK390101; clear BK390107; clear HB; have BK390101 := n0_; have BK390107 := n1_; have HB := n2_; clear n0_ n1_ n2_; (try clear hb); (try clear hb2); (try clear hk); (try clear hi)))
                    go_ret2
                    exact ⟨by first | rfl | (simp [errW_none, errW_some] <;> rfl) | (simp [*, errW_none, errW_some] <;> rfl), by repeat (first | (with_reducible first | exact HB.out | apply below_alloc | apply pw_below_drewN | apply below_drew1 | refine below_set ?_ GE390101.out | refine below_set ?_ GE390107.out) | exact HB.out)⟩
                  · rw [if_neg c59] at H
                    exact absurd H (by simp)
                · rw [if_neg c56] at H
                  have c56b0 : (a1 == 3) = false := beq_eq_false_iff_ne.mpr c56
                  have c56b1 : (a1 != 3) = true := bne_iff_ne.mpr c56
                  by_cases c68 : t390104 < 0
                  · rw [if_pos c68] at H
                    have c68b0 : decide (t390104 < 0) = true := decide_eq_true c68
                    clear c68
                    simp only [Option.some.injEq, Prod.mk.injEq] at H
                    obtain ⟨rfl, rfl⟩ := H
                    go_wp2_with (first | ((with_reducible refine gate_callee (f := 75) rfl ?_); refine goesL_ (some 25) rfl rfl Tryd.func75 (by kernel_rfl) rfl #[.int .i64 t390102] rfl (by (try simp only [List.map_toArray, List.map_cons, List.map_nil]); first | done | rfl | (simp only [List.length_drop, List.length_take]; rfl)) ?_; (with_reducible refine (larderref03_week.calls kj4 t390102 t390104 t390105 t390106 _ A11.out).mono ?_); rintro e w69 ⟨rfl, hb⟩; refine ⟨_, rfl, ?_⟩; have n0_ := Aside0.mk (blk_below (g := gb390101) (o := .cells #[.int .i64 a0_0, .int .i64 a0_1, .int .i64 a0_2] 23 (0, 0)) (by (with_reducible repeat (first | refine blk_drewN ?_ _ | refine blk_drew ?_ | refine blk_alloc ?_ _)); exact BK390101.out) hb); have n1_ := Aside0.mk (below_step (by repeat (first | (with_reducible first | exact HB.out | apply below_alloc | apply pw_below_drewN | apply below_drew1 | refine below_set ?_ GE390101.out) | exact HB.out)) hb); clear BK390101; clear HB; have BK390101 := n0_; have HB := n1_; clear n0_ n1_; (try clear hb); (try clear hb2); (try clear hk); (try clear hi)) | ((with_reducible refine gate_dst (N := 8) rfl ?_); refine box_event ?hg (N := 8) ?hd (cs := #[.int .i64 0, .int .i64 0, .int .i64 0]) (t := 86) ?hr ?_; (case hd => rfl); (case hg => rfl); (case hr => first | (go_simp; done) | (go_simp; rfl)); intro gb390107 hg w70 hbox hb; have n0_ := Aside0.mk (blk_below (g := gb390101) (o := .cells #[.int .i64 a0_0, .int .i64 a0_1, .int .i64 a0_2] 23 (0, 0)) (by (with_reducible repeat (first | refine blk_drewN ?_ _ | refine blk_drew ?_ | refine blk_alloc ?_ _)); exact BK390101.out) hb); have n1_ := Aside0.mk (below_step (by repeat (first | (with_reducible first | exact HB.out | apply below_alloc | apply pw_below_drewN | apply below_drew1 | refine below_set ?_ GE390101.out) | exact HB.out)) hb); have n2_ := Aside0.mk (hbox); have n3_ := Aside0.mk ((by rw [hg]; exact (below_size (by repeat (first | (with_reducible first | exact HB.out | apply below_alloc | apply pw_below_drewN | apply below_drew1 | refine below_set ?_ GE390101.out) | exact HB.out))) : w.heap.size ≤ gb390107)); have n4_ := Aside0.mk ((by rw [hg]; exact (below_size (by repeat (first | (with_reducible first | exact HB.out | apply below_alloc | apply pw_below_drewN | apply below_drew1 | refine below_set ?_ GE390101.out) | exact HB.out))) : w.heap.size ≤ gb390107)); have n5_ := Aside0.mk ((by rw [hg]; exact Nat.ne_of_lt (blk_lt (g := gb390101) (o := .cells #[.int .i64 a0_0, .int .i64 a0_1, .int .i64 a0_2] 23 (0, 0)) (by (with_reducible repeat (first | refine blk_drewN ?_ _ | refine blk_drew ?_ | refine blk_alloc ?_ _)); exact BK390101.out)) : gb390101 ≠ gb390107)); have n6_ := Aside0.mk ((by rw [hg]; exact Nat.ne_of_gt (blk_lt (g := gb390101) (o := .cells #[.int .i64 a0_0, .int .i64 a0_1, .int .i64 a0_2] 23 (0, 0)) (by (with_reducible repeat (first | refine blk_drewN ?_ _ | refine blk_drew ?_ | refine blk_alloc ?_ _)); exact BK390101.out)) : gb390107 ≠ gb390101)); clear BK390101; clear HB; have BK390101 := n0_; have HB := n1_; have BK390107 := n2_; have GW390107 := n3_; have GE390107 := n4_; have NB390101_390107 := n5_; have NB390107_390101 := n6_; clear n0_ n1_ n2_ n3_ n4_ n5_ n6_; clear hb hbox hg; have hnb71 := NB390107_390101.out; have hnc71 := NB390101_390107.out; have hcz72_0 : w70.cell? ⟨gb390107, 0, none⟩ = some (.int .i64 0) := (blk_cell BK390107.out 0).trans rfl; have hcz72_1 : w70.cell? ⟨gb390107, 1, none⟩ = some (.int .i64 0) := (blk_cell BK390107.out 1).trans rfl; have hcz72_2 : w70.cell? ⟨gb390107, 2, none⟩ = some (.int .i64 0) := (blk_cell BK390107.out 2).trans rfl; have hfz72_0 := blk_frozen BK390107.out 0; have hfz72_1 := blk_frozen BK390107.out 1; have hfz72_2 := blk_frozen BK390107.out 2; have hcz73_0 : w70.cell? ⟨gb390101, 0, none⟩ = some (.int .i64 a0_0) := (blk_cell BK390101.out 0).trans rfl; have hcz73_1 : w70.cell? ⟨gb390101, 1, none⟩ = some (.int .i64 a0_1) := (blk_cell BK390101.out 1).trans rfl; have hcz73_2 : w70.cell? ⟨gb390101, 2, none⟩ = some (.int .i64 a0_2) := (blk_cell BK390101.out 2).trans rfl; have hfz73_0 := blk_frozen BK390101.out 0; have hfz73_1 := blk_frozen BK390101.out 1; have hfz73_2 := blk_frozen BK390101.out 2) | ((with_reducible refine gate_callee (f := 41) rfl ?_); refine goesL_ (some 28) rfl rfl Tryd.func41 (by kernel_rfl) rfl #[.int .i64 a0_0, .int .i64 4] rfl (by (try simp only [List.map_toArray, List.map_cons, List.map_nil]); first | done | rfl | (simp only [List.length_drop, List.length_take]; rfl)) ?_; (with_reducible refine (larderref03_pad.calls kj4 a0_0 4 t390108 _ A12.out).mono ?_); rintro e w74 ⟨rfl, hb⟩; refine ⟨_, rfl, ?_⟩; have n0_ := Aside0.mk (blk_below (g := gb390101) (o := .cells #[.int .i64 a0_0, .int .i64 a0_1, .int .i64 a0_2] 23 (0, 0)) (by (with_reducible repeat (first | refine blk_drewN ?_ _ | refine blk_drew ?_ | refine blk_alloc ?_ _)); refine blk_far ?_ NB390101_390107.out _; (with_reducible repeat (first | refine blk_drewN ?_ _ | refine blk_drew ?_ | refine blk_alloc ?_ _)); refine blk_far ?_ NB390101_390107.out _; (with_reducible repeat (first | refine blk_drewN ?_ _ | refine blk_drew ?_ | refine blk_alloc ?_ _)); refine blk_far ?_ NB390101_390107.out _; (with_reducible repeat (first | refine blk_drewN ?_ _ | refine blk_drew ?_ | refine blk_alloc ?_ _)); exact BK390101.out) hb); have n1_ := Aside0.mk (blk_below (g := gb390107) (o := .cells #[.int .i64 t390104, .int .i64 t390105, .int .i64 t390106] 86 (0, 0)) (by (with_reducible repeat (first | refine blk_drewN ?_ _ | refine blk_drew ?_ | refine blk_alloc ?_ _)); refine blk_put (cs := #[.int .i64 t390104, .int .i64 t390105, .int .i64 0]) ?_ 2 _ rfl; (with_reducible repeat (first | refine blk_drewN ?_ _ | refine blk_drew ?_ | refine blk_alloc ?_ _)); refine blk_put (cs := #[.int .i64 t390104, .int .i64 0, .int .i64 0]) ?_ 1 _ rfl; (with_reducible repeat (first | refine blk_drewN ?_ _ | refine blk_drew ?_ | refine blk_alloc ?_ _)); refine blk_put (cs := #[.int .i64 0, .int .i64 0, .int .i64 0]) ?_ 0 _ rfl; (with_reducible repeat (first | refine blk_drewN ?_ _ | refine blk_drew ?_ | refine blk_alloc ?_ _)); exact BK390107.out) hb); have n2_ := Aside0.mk (below_step (by repeat (first | (with_reducible first | exact HB.out | apply below_alloc | apply pw_below_drewN | apply below_drew1 | refine below_set ?_ GE390101.out | refine below_set ?_ GE390107.out) | exact HB.out)) hb); clear BK390101; clear BK390107; clear HB; have BK390101 := n0_; have BK390107 := n1_; have HB := n2_; clear n0_ n1_ n2_; (try clear hb); (try clear hb2); (try clear hk); (try clear hi); have hcz75_0 : w74.cell? ⟨gb390107, 0, none⟩ = some (.int .i64 t390104) := (blk_cell BK390107.out 0).trans rfl; have hcz75_1 : w74.cell? ⟨gb390107, 1, none⟩ = some (.int .i64 t390105) := (blk_cell BK390107.out 1).trans rfl; have hcz75_2 : w74.cell? ⟨gb390107, 2, none⟩ = some (.int .i64 t390106) := (blk_cell BK390107.out 2).trans rfl; have hfz75_0 := blk_frozen BK390107.out 0; have hfz75_1 := blk_frozen BK390107.out 1; have hfz75_2 := blk_frozen BK390107.out 2))
                    go_ret2
                    exact ⟨by first | rfl | (simp [errW_none, errW_some] <;> rfl) | (simp [*, errW_none, errW_some] <;> rfl), by repeat (first | (with_reducible first | exact HB.out | apply below_alloc | apply pw_below_drewN | apply below_drew1 | refine below_set ?_ GE390101.out | refine below_set ?_ GE390107.out) | exact HB.out)⟩
                  · rw [if_neg c68] at H
                    have c68b0 : decide (t390104 < 0) = false := decide_eq_false c68
                    clear c68
                    by_cases c76 : a1 = 4
                    · rw [if_pos c76] at H
                      have c76b0 : (a1 == 4) = true := beq_iff_eq.mpr c76
                      have c76b1 : (a1 != 4) = false := bne_eq_false_iff_eq.mpr c76
                      clear c76
                      replace H := Option.bind_eq_some_iff.mp H
                      obtain ⟨t390117, A770, H⟩ := H
                      replace H : (if t390117.size + 2 ≤ 9223372036854775807 then ((larderref03_pad.f kj4 t390105 2).bind fun t390118 => (if t390117.size + 2 + t390118.size ≤ 9223372036854775807 then (if t390117.size + 2 + t390118.size + 1 ≤ 9223372036854775807 then ((larderref03_pad.f kj4 t390106 1).bind fun t390119 => (if t390117.size + 2 + t390118.size + 1 + t390119.size ≤ 9223372036854775807 then (some ((((t390117 ++ (⟨#[45, 87]⟩ : ByteArray)) ++ t390118) ++ (⟨#[45]⟩ : ByteArray)) ++ t390119, 0)) else (none))) else (none)) else (none))) else (none)) = some (r1, r2) := H
                      have A77 := Aside0.mk A770
                      clear A770
                      by_cases c78 : t390117.size + 2 ≤ 9223372036854775807
                      · rw [if_pos c78] at H
                        have c78b0 := eq_true c78
                        have c78b1 : decide (t390117.size + 2 ≤ 9223372036854775807) = true := decide_eq_true c78
                        try have c78b2 : (9223372036854775807 < t390117.size + 2) = False := eq_false (Nat.not_lt.2 c78)
                        replace H := Option.bind_eq_some_iff.mp H
                        obtain ⟨t390118, A790, H⟩ := H
                        replace H : (if t390117.size + 2 + t390118.size ≤ 9223372036854775807 then (if t390117.size + 2 + t390118.size + 1 ≤ 9223372036854775807 then ((larderref03_pad.f kj4 t390106 1).bind fun t390119 => (if t390117.size + 2 + t390118.size + 1 + t390119.size ≤ 9223372036854775807 then (some ((((t390117 ++ (⟨#[45, 87]⟩ : ByteArray)) ++ t390118) ++ (⟨#[45]⟩ : ByteArray)) ++ t390119, 0)) else (none))) else (none)) else (none)) = some (r1, r2) := H
                        have A79 := Aside0.mk A790
                        clear A790
                        by_cases c80 : t390117.size + 2 + t390118.size ≤ 9223372036854775807
                        · rw [if_pos c80] at H
                          have c80b0 := eq_true c80
                          have c80b1 : decide (t390117.size + 2 + t390118.size ≤ 9223372036854775807) = true := decide_eq_true c80
                          try have c80b2 : (9223372036854775807 < t390117.size + 2 + t390118.size) = False := eq_false (Nat.not_lt.2 c80)
                          by_cases c81 : t390117.size + 2 + t390118.size + 1 ≤ 9223372036854775807
                          · rw [if_pos c81] at H
                            have c81b0 := eq_true c81
                            have c81b1 : decide (t390117.size + 2 + t390118.size + 1 ≤ 9223372036854775807) = true := decide_eq_true c81
                            try have c81b2 : (9223372036854775807 < t390117.size + 2 + t390118.size + 1) = False := eq_false (Nat.not_lt.2 c81)
                            replace H := Option.bind_eq_some_iff.mp H
                            obtain ⟨t390119, A820, H⟩ := H
                            replace H : (if t390117.size + 2 + t390118.size + 1 + t390119.size ≤ 9223372036854775807 then (some ((((t390117 ++ (⟨#[45, 87]⟩ : ByteArray)) ++ t390118) ++ (⟨#[45]⟩ : ByteArray)) ++ t390119, 0)) else (none)) = some (r1, r2) := H
                            have A82 := Aside0.mk A820
                            clear A820
                            by_cases c83 : t390117.size + 2 + t390118.size + 1 + t390119.size ≤ 9223372036854775807
                            · rw [if_pos c83] at H
                              have c83b0 := eq_true c83
                              have c83b1 : decide (t390117.size + 2 + t390118.size + 1 + t390119.size ≤ 9223372036854775807) = true := decide_eq_true c83
                              try have c83b2 : (9223372036854775807 < t390117.size + 2 + t390118.size + 1 + t390119.size) = False := eq_false (Nat.not_lt.2 c83)
                              simp only [Option.some.injEq, Prod.mk.injEq] at H
                              obtain ⟨rfl, rfl⟩ := H
                              try go_wp2_with (first | ((with_reducible refine gate_callee (f := 75) rfl ?_); refine goesL_ (some 25) rfl rfl Tryd.func75 (by kernel_rfl) rfl #[.int .i64 t390102] rfl (by (try simp only [List.map_toArray, List.map_cons, List.map_nil]); first | done | rfl | (simp only [List.length_drop, List.length_take]; rfl)) ?_; (with_reducible refine (larderref03_week.calls kj4 t390102 t390104 t390105 t390106 _ A11.out).mono ?_); rintro e w84 ⟨rfl, hb⟩; refine ⟨_, rfl, ?_⟩; have n0_ := Aside0.mk (blk_below (g := gb390101) (o := .cells #[.int .i64 a0_0, .int .i64 a0_1, .int .i64 a0_2] 23 (0, 0)) (by (with_reducible repeat (first | refine blk_drewN ?_ _ | refine blk_drew ?_ | refine blk_alloc ?_ _)); exact BK390101.out) hb); have n1_ := Aside0.mk (below_step (by repeat (first | (with_reducible first | exact HB.out | apply below_alloc | apply pw_below_drewN | apply below_drew1 | refine below_set ?_ GE390101.out) | exact HB.out)) hb); clear BK390101; clear HB; have BK390101 := n0_; have HB := n1_; clear n0_ n1_; (try clear hb); (try clear hb2); (try clear hk); (try clear hi)) | ((with_reducible refine gate_dst (N := 8) rfl ?_); refine box_event ?hg (N := 8) ?hd (cs := #[.int .i64 0, .int .i64 0, .int .i64 0]) (t := 86) ?hr ?_; (case hd => rfl); (case hg => rfl); (case hr => first | (go_simp; done) | (go_simp; rfl)); intro gb390107 hg w85 hbox hb; have n0_ := Aside0.mk (blk_below (g := gb390101) (o := .cells #[.int .i64 a0_0, .int .i64 a0_1, .int .i64 a0_2] 23 (0, 0)) (by (with_reducible repeat (first | refine blk_drewN ?_ _ | refine blk_drew ?_ | refine blk_alloc ?_ _)); exact BK390101.out) hb); have n1_ := Aside0.mk (below_step (by repeat (first | (with_reducible first | exact HB.out | apply below_alloc | apply pw_below_drewN | apply below_drew1 | refine below_set ?_ GE390101.out) | exact HB.out)) hb); have n2_ := Aside0.mk (hbox); have n3_ := Aside0.mk ((by rw [hg]; exact (below_size (by repeat (first | (with_reducible first | exact HB.out | apply below_alloc | apply pw_below_drewN | apply below_drew1 | refine below_set ?_ GE390101.out) | exact HB.out))) : w.heap.size ≤ gb390107)); have n4_ := Aside0.mk ((by rw [hg]; exact (below_size (by repeat (first | (with_reducible first | exact HB.out | apply below_alloc | apply pw_below_drewN | apply below_drew1 | refine below_set ?_ GE390101.out) | exact HB.out))) : w.heap.size ≤ gb390107)); have n5_ := Aside0.mk ((by rw [hg]; exact Nat.ne_of_lt (blk_lt (g := gb390101) (o := .cells #[.int .i64 a0_0, .int .i64 a0_1, .int .i64 a0_2] 23 (0, 0)) (by (with_reducible repeat (first | refine blk_drewN ?_ _ | refine blk_drew ?_ | refine blk_alloc ?_ _)); exact BK390101.out)) : gb390101 ≠ gb390107)); have n6_ := Aside0.mk ((by rw [hg]; exact Nat.ne_of_gt (blk_lt (g := gb390101) (o := .cells #[.int .i64 a0_0, .int .i64 a0_1, .int .i64 a0_2] 23 (0, 0)) (by (with_reducible repeat (first | refine blk_drewN ?_ _ | refine blk_drew ?_ | refine blk_alloc ?_ _)); exact BK390101.out)) : gb390107 ≠ gb390101)); clear BK390101; clear HB; have BK390101 := n0_; have HB := n1_; have BK390107 := n2_; have GW390107 := n3_; have GE390107 := n4_; have NB390101_390107 := n5_; have NB390107_390101 := n6_; clear n0_ n1_ n2_ n3_ n4_ n5_ n6_; clear hb hbox hg; have hnb86 := NB390107_390101.out; have hnc86 := NB390101_390107.out; have hcz87_0 : w85.cell? ⟨gb390107, 0, none⟩ = some (.int .i64 0) := (blk_cell BK390107.out 0).trans rfl; have hcz87_1 : w85.cell? ⟨gb390107, 1, none⟩ = some (.int .i64 0) := (blk_cell BK390107.out 1).trans rfl; have hcz87_2 : w85.cell? ⟨gb390107, 2, none⟩ = some (.int .i64 0) := (blk_cell BK390107.out 2).trans rfl; have hfz87_0 := blk_frozen BK390107.out 0; have hfz87_1 := blk_frozen BK390107.out 1; have hfz87_2 := blk_frozen BK390107.out 2; have hcz88_0 : w85.cell? ⟨gb390101, 0, none⟩ = some (.int .i64 a0_0) := (blk_cell BK390101.out 0).trans rfl; have hcz88_1 : w85.cell? ⟨gb390101, 1, none⟩ = some (.int .i64 a0_1) := (blk_cell BK390101.out 1).trans rfl; have hcz88_2 : w85.cell? ⟨gb390101, 2, none⟩ = some (.int .i64 a0_2) := (blk_cell BK390101.out 2).trans rfl; have hfz88_0 := blk_frozen BK390101.out 0; have hfz88_1 := blk_frozen BK390101.out 1; have hfz88_2 := blk_frozen BK390101.out 2) | ((with_reducible refine gate_callee (f := 41) rfl ?_); refine goesL_ (some 28) rfl rfl Tryd.func41 (by kernel_rfl) rfl #[.int .i64 a0_0, .int .i64 4] rfl (by (try simp only [List.map_toArray, List.map_cons, List.map_nil]); first | done | rfl | (simp only [List.length_drop, List.length_take]; rfl)) ?_; (with_reducible refine (larderref03_pad.calls kj4 a0_0 4 t390108 _ A12.out).mono ?_); rintro e w89 ⟨rfl, hb⟩; refine ⟨_, rfl, ?_⟩; have n0_ := Aside0.mk (blk_below (g := gb390101) (o := .cells #[.int .i64 a0_0, .int .i64 a0_1, .int .i64 a0_2] 23 (0, 0)) (by (with_reducible repeat (first | refine blk_drewN ?_ _ | refine blk_drew ?_ | refine blk_alloc ?_ _)); refine blk_far ?_ NB390101_390107.out _; (with_reducible repeat (first | refine blk_drewN ?_ _ | refine blk_drew ?_ | refine blk_alloc ?_ _)); refine blk_far ?_ NB390101_390107.out _; (with_reducible repeat (first | refine blk_drewN ?_ _ | refine blk_drew ?_ | refine blk_alloc ?_ _)); refine blk_far ?_ NB390101_390107.out _; (with_reducible repeat (first | refine blk_drewN ?_ _ | refine blk_drew ?_ | refine blk_alloc ?_ _)); exact BK390101.out) hb); have n1_ := Aside0.mk (blk_below (g := gb390107) (o := .cells #[.int .i64 t390104, .int .i64 t390105, .int .i64 t390106] 86 (0, 0)) (by (with_reducible repeat (first | refine blk_drewN ?_ _ | refine blk_drew ?_ | refine blk_alloc ?_ _)); refine blk_put (cs := #[.int .i64 t390104, .int .i64 t390105, .int .i64 0]) ?_ 2 _ rfl; (with_reducible repeat (first | refine blk_drewN ?_ _ | refine blk_drew ?_ | refine blk_alloc ?_ _)); refine blk_put (cs := #[.int .i64 t390104, .int .i64 0, .int .i64 0]) ?_ 1 _ rfl; (with_reducible repeat (first | refine blk_drewN ?_ _ | refine blk_drew ?_ | refine blk_alloc ?_ _)); refine blk_put (cs := #[.int .i64 0, .int .i64 0, .int .i64 0]) ?_ 0 _ rfl; (with_reducible repeat (first | refine blk_drewN ?_ _ | refine blk_drew ?_ | refine blk_alloc ?_ _)); exact BK390107.out) hb); have n2_ := Aside0.mk (below_step (by repeat (first | (with_reducible first | exact HB.out | apply below_alloc | apply pw_below_drewN | apply below_drew1 | refine below_set ?_ GE390101.out | refine below_set ?_ GE390107.out) | exact HB.out)) hb); clear BK390101; clear BK390107; clear HB; have BK390101 := n0_; have BK390107 := n1_; have HB := n2_; clear n0_ n1_ n2_; (try clear hb); (try clear hb2); (try clear hk); (try clear hi); have hcz90_0 : w89.cell? ⟨gb390107, 0, none⟩ = some (.int .i64 t390104) := (blk_cell BK390107.out 0).trans rfl; have hcz90_1 : w89.cell? ⟨gb390107, 1, none⟩ = some (.int .i64 t390105) := (blk_cell BK390107.out 1).trans rfl; have hcz90_2 : w89.cell? ⟨gb390107, 2, none⟩ = some (.int .i64 t390106) := (blk_cell BK390107.out 2).trans rfl; have hfz90_0 := blk_frozen BK390107.out 0; have hfz90_1 := blk_frozen BK390107.out 1; have hfz90_2 := blk_frozen BK390107.out 2))
                              have n0_ := Aside0.mk (blk_drew BK390101.out)
                              have n1_ := Aside0.mk (blk_drew BK390107.out)
                              have n2_ := Aside0.mk (below_drew1 HB.out)
                              clear BK390101
                              clear BK390107
                              clear HB
                              have BK390101 := n0_
                              have BK390107 := n1_
                              have HB := n2_
                              clear n0_ n1_ n2_
                              refine start_ (n := 15) (S := fun w' => w'.cell? ⟨gb390107, 0, none⟩ = some (.int .i64 t390104) ∧ w'.cell? ⟨gb390107, 1, none⟩ = some (.int .i64 t390105) ∧ w'.cell? ⟨gb390107, 2, none⟩ = some (.int .i64 t390106)) (ds := []) #[false, false, false, false, false, false, false, false, false, false, false, false, false, false, false] (by kernel_rfl) rfl rfl ⟨(blk_cell BK390107.out 0).trans rfl, (blk_cell BK390107.out 1).trans rfl, (blk_cell BK390107.out 2).trans rfl⟩ (fun hHeld => ?_); refine with_tabW larderref03_PrintDate.tab20 larderref03_PrintDate.bits20 (fun HT_ HW_ => ?_)
                              generalize w89.drew = w91 at BK390101 BK390107 HB hHeld ⊢
                              refine pure_ (i := 0) (N := some 82) (v := ?_) (a' := ?_) #[true, false, false, false, false, false, false, false, false, false, false, false, false, false, false] rfl rfl (any_of HT_.out (by kernel_rfl)) (fun _ _ _ h => h) (Or.inl ⟨by rfl, ?_⟩) ?_ ?_
                              rotate_left
                              · intro w'
                                go_simp
                                with_reducible rfl
                              rotate_left
                              · simp only [Act.put, List.setIfInBounds_toArray, List.set_cons_zero, List.set_cons_succ, i64_w, i32_w]
                                rfl
                              refine pure_ (i := 4) (N := some 86) (v := ?_) (a' := ?_) #[true, false, false, false, true, false, false, false, false, false, false, false, false, false, false] rfl rfl (any_of HT_.out (by kernel_rfl)) (fun _ _ _ h => h) (Or.inl ⟨by rfl, ?_⟩) ?_ ?_
                              rotate_left
                              · intro w'
                                go_simp
                                with_reducible rfl
                              rotate_left
                              · simp only [Act.put, List.setIfInBounds_toArray, List.set_cons_zero, List.set_cons_succ, i64_w, i32_w]
                                rfl
                              refine pure_ (i := 9) (N := some 91) (v := ?_) (a' := ?_) #[true, false, false, false, true, false, false, false, false, true, false, false, false, false, false] rfl rfl (any_of HT_.out (by kernel_rfl)) (fun _ _ _ h => h) (Or.inl ⟨by rfl, ?_⟩) ?_ ?_
                              rotate_left
                              · intro w'
                                go_simp
                                with_reducible rfl
                              rotate_left
                              · simp only [Act.put, List.setIfInBounds_toArray, List.set_cons_zero, List.set_cons_succ, i64_w, i32_w]
                                rfl
                              refine take_ (i := 1) (N := some 83) (v := ?_) (a' := ?_) #[true, true, false, false, true, false, false, false, false, true, false, false, false, false, false] rfl rfl (take_ofW HT_.out HW_.out (by kernel_rfl)) (fun _ _ _ h => h) (Or.inl ⟨by rfl, ?_⟩) hHeld ?_ ?_
                              rotate_left
                              · rintro w' ⟨s0, s1, s2⟩
                                go_simp
                                with_reducible rfl
                              rotate_left
                              · simp only [Act.put, List.setIfInBounds_toArray, List.set_cons_zero, List.set_cons_succ, i64_w, i32_w]
                                rfl
                              refine take_ (i := 5) (N := some 87) (v := ?_) (a' := ?_) #[true, true, false, false, true, true, false, false, false, true, false, false, false, false, false] rfl rfl (take_ofW HT_.out HW_.out (by kernel_rfl)) (fun _ _ _ h => h) (Or.inl ⟨by rfl, ?_⟩) hHeld ?_ ?_
                              rotate_left
                              · rintro w' ⟨s0, s1, s2⟩
                                go_simp
                                with_reducible rfl
                              rotate_left
                              · simp only [Act.put, List.setIfInBounds_toArray, List.set_cons_zero, List.set_cons_succ, i64_w, i32_w]
                                rfl
                              refine take_ (i := 10) (N := some 92) (v := ?_) (a' := ?_) #[true, true, false, false, true, true, false, false, false, true, true, false, false, false, false] rfl rfl (take_ofW HT_.out HW_.out (by kernel_rfl)) (fun _ _ _ h => h) (Or.inl ⟨by rfl, ?_⟩) hHeld ?_ ?_
                              rotate_left
                              · rintro w' ⟨s0, s1, s2⟩
                                go_simp
                                with_reducible rfl
                              rotate_left
                              · simp only [Act.put, List.setIfInBounds_toArray, List.set_cons_zero, List.set_cons_succ, i64_w, i32_w]
                                rfl
                              refine one_ (i := 2) (N := some 84) #[true, true, true, false, true, true, false, false, false, true, true, false, false, false, false] rfl rfl (one_of HT_.out (by kernel_rfl)) (by decide) (fun K hK => ?_)
                              refine goes_ Tryd.func41 (by kernel_rfl) rfl #[.int .i64 t390104, .int .i64 4] (by rfl) rfl rfl (by (try simp only [List.map_toArray, List.map_cons, List.map_nil]); first | done | rfl | (simp only [List.length_drop, List.length_take]; rfl)) ?_
                              with_reducible refine (larderref03_pad.calls kj4 t390104 4 t390117 _ A77.out).mono ?_
                              rintro e w92 ⟨rfl, hb⟩
                              refine ⟨_, rfl, ?_⟩
                              have n0_ := Aside0.mk (blk_below (g := gb390101) (o := .cells #[.int .i64 a0_0, .int .i64 a0_1, .int .i64 a0_2] 23 (0, 0)) (by (with_reducible repeat (first | refine blk_drewN ?_ _ | refine blk_drew ?_ | refine blk_alloc ?_ _)); exact BK390101.out) hb)
                              have n1_ := Aside0.mk (blk_below (g := gb390107) (o := .cells #[.int .i64 t390104, .int .i64 t390105, .int .i64 t390106] 86 (0, 0)) (by (with_reducible repeat (first | refine blk_drewN ?_ _ | refine blk_drew ?_ | refine blk_alloc ?_ _)); exact BK390107.out) hb)
                              have n2_ := Aside0.mk (below_step (by repeat (first | (with_reducible first | exact HB.out | apply below_alloc | apply pw_below_drewN | apply below_drew1 | refine below_set ?_ GE390101.out | refine below_set ?_ GE390107.out) | exact HB.out)) hb)
                              clear BK390101
                              clear BK390107
                              clear HB
                              have BK390101 := n0_
                              have BK390107 := n1_
                              have HB := n2_
                              clear n0_ n1_ n2_
                              (try clear hb)
                              (try clear hb2)
                              (try clear hk)
                              (try clear hi)
                              refine hK.out _ _ ⟨(blk_cell BK390107.out 0).trans rfl, (blk_cell BK390107.out 1).trans rfl, (blk_cell BK390107.out 2).trans rfl⟩ (fun hHeld => ?_)
                              clear hK K
                              refine norm_ (a' := ?_) ?_ ?_
                              rotate_left
                              · show Act.put _ (some 84) _ = _
                                simp only [Act.put, List.setIfInBounds_toArray, List.set_cons_zero, List.set_cons_succ, i64_w, i32_w]
                                rfl
                              refine pure_ (i := 3) (N := some 85) (v := ?_) (a' := ?_) #[true, true, true, true, true, true, false, false, false, true, true, false, false, false, false] rfl rfl (any_of HT_.out (by kernel_rfl)) (fun _ _ _ h => h) (Or.inl ⟨by rfl, ?_⟩) ?_ ?_
                              rotate_left
                              · intro w'
                                go_simp
                                with_reducible rfl
                              rotate_left
                              · simp only [Act.put, List.setIfInBounds_toArray, List.set_cons_zero, List.set_cons_succ, i64_w, i32_w]
                                rfl
                              refine one_ (i := 6) (N := some 88) #[true, true, true, true, true, true, true, false, false, true, true, false, false, false, false] rfl rfl (one_of HT_.out (by kernel_rfl)) (by decide) (fun K hK => ?_)
                              refine goes_ Tryd.func41 (by kernel_rfl) rfl #[.int .i64 t390105, .int .i64 2] (by rfl) rfl rfl (by (try simp only [List.map_toArray, List.map_cons, List.map_nil]); first | done | rfl | (simp only [List.length_drop, List.length_take]; rfl)) ?_
                              with_reducible refine (larderref03_pad.calls kj4 t390105 2 t390118 _ A79.out).mono ?_
                              rintro e w93 ⟨rfl, hb⟩
                              refine ⟨_, rfl, ?_⟩
                              have n0_ := Aside0.mk (blk_below (g := gb390101) (o := .cells #[.int .i64 a0_0, .int .i64 a0_1, .int .i64 a0_2] 23 (0, 0)) (by (with_reducible repeat (first | refine blk_drewN ?_ _ | refine blk_drew ?_ | refine blk_alloc ?_ _)); exact BK390101.out) hb)
                              have n1_ := Aside0.mk (blk_below (g := gb390107) (o := .cells #[.int .i64 t390104, .int .i64 t390105, .int .i64 t390106] 86 (0, 0)) (by (with_reducible repeat (first | refine blk_drewN ?_ _ | refine blk_drew ?_ | refine blk_alloc ?_ _)); exact BK390107.out) hb)
                              have n2_ := Aside0.mk (below_step (by repeat (first | (with_reducible first | exact HB.out | apply below_alloc | apply pw_below_drewN | apply below_drew1 | refine below_set ?_ GE390101.out | refine below_set ?_ GE390107.out) | exact HB.out)) hb)
                              clear BK390101
                              clear BK390107
                              clear HB
                              have BK390101 := n0_
                              have BK390107 := n1_
                              have HB := n2_
                              clear n0_ n1_ n2_
                              (try clear hb)
                              (try clear hb2)
                              (try clear hk)
                              (try clear hi)
                              refine hK.out _ _ ⟨(blk_cell BK390107.out 0).trans rfl, (blk_cell BK390107.out 1).trans rfl, (blk_cell BK390107.out 2).trans rfl⟩ (fun hHeld => ?_)
                              clear hK K
                              refine norm_ (a' := ?_) ?_ ?_
                              rotate_left
                              · show Act.put _ (some 88) _ = _
                                simp only [Act.put, List.setIfInBounds_toArray, List.set_cons_zero, List.set_cons_succ, i64_w, i32_w]
                                rfl
                              refine pure_ (i := 7) (N := some 89) (v := ?_) (a' := ?_) #[true, true, true, true, true, true, true, true, false, true, true, false, false, false, false] rfl rfl (any_of HT_.out (by kernel_rfl)) (fun _ _ _ h => h) (Or.inl ⟨by rfl, ?_⟩) ?_ ?_
                              rotate_left
                              · intro w'
                                go_simp
                                with_reducible rfl
                              rotate_left
                              · simp only [Act.put, List.setIfInBounds_toArray, List.set_cons_zero, List.set_cons_succ, i64_w, i32_w]
                                rfl
                              refine pure_ (i := 8) (N := some 90) (v := ?_) (a' := ?_) #[true, true, true, true, true, true, true, true, true, true, true, false, false, false, false] rfl rfl (any_of HT_.out (by kernel_rfl)) (fun _ _ _ h => h) (Or.inl ⟨by rfl, ?_⟩) ?_ ?_
                              rotate_left
                              · intro w'
                                go_simp
                                with_reducible rfl
                              rotate_left
                              · simp only [Act.put, List.setIfInBounds_toArray, List.set_cons_zero, List.set_cons_succ, i64_w, i32_w]
                                rfl
                              refine one_ (i := 11) (N := some 93) #[true, true, true, true, true, true, true, true, true, true, true, true, false, false, false] rfl rfl (one_of HT_.out (by kernel_rfl)) (by decide) (fun K hK => ?_)
                              refine goes_ Tryd.func41 (by kernel_rfl) rfl #[.int .i64 t390106, .int .i64 1] (by rfl) rfl rfl (by (try simp only [List.map_toArray, List.map_cons, List.map_nil]); first | done | rfl | (simp only [List.length_drop, List.length_take]; rfl)) ?_
                              with_reducible refine (larderref03_pad.calls kj4 t390106 1 t390119 _ A82.out).mono ?_
                              rintro e w94 ⟨rfl, hb⟩
                              refine ⟨_, rfl, ?_⟩
                              have n0_ := Aside0.mk (blk_below (g := gb390101) (o := .cells #[.int .i64 a0_0, .int .i64 a0_1, .int .i64 a0_2] 23 (0, 0)) (by (with_reducible repeat (first | refine blk_drewN ?_ _ | refine blk_drew ?_ | refine blk_alloc ?_ _)); exact BK390101.out) hb)
                              have n1_ := Aside0.mk (blk_below (g := gb390107) (o := .cells #[.int .i64 t390104, .int .i64 t390105, .int .i64 t390106] 86 (0, 0)) (by (with_reducible repeat (first | refine blk_drewN ?_ _ | refine blk_drew ?_ | refine blk_alloc ?_ _)); exact BK390107.out) hb)
                              have n2_ := Aside0.mk (below_step (by repeat (first | (with_reducible first | exact HB.out | apply below_alloc | apply pw_below_drewN | apply below_drew1 | refine below_set ?_ GE390101.out | refine below_set ?_ GE390107.out) | exact HB.out)) hb)
                              clear BK390101
                              clear BK390107
                              clear HB
                              have BK390101 := n0_
                              have BK390107 := n1_
                              have HB := n2_
                              clear n0_ n1_ n2_
                              (try clear hb)
                              (try clear hb2)
                              (try clear hk)
                              (try clear hi)
                              refine hK.out _ _ ⟨(blk_cell BK390107.out 0).trans rfl, (blk_cell BK390107.out 1).trans rfl, (blk_cell BK390107.out 2).trans rfl⟩ (fun hHeld => ?_)
                              clear hK K
                              refine norm_ (a' := ?_) ?_ ?_
                              rotate_left
                              · show Act.put _ (some 93) _ = _
                                simp only [Act.put, List.setIfInBounds_toArray, List.set_cons_zero, List.set_cons_succ, i64_w, i32_w]
                                rfl
                              refine pure_ (i := 12) (N := some 94) (v := ?_) (a' := ?_) #[true, true, true, true, true, true, true, true, true, true, true, true, true, false, false] rfl rfl (any_of HT_.out (by kernel_rfl)) (fun _ _ _ h => h) (Or.inl ⟨by rfl, ?_⟩) ?_ ?_
                              rotate_left
                              · intro w'
                                go_simp
                                with_reducible rfl
                              rotate_left
                              · simp only [Act.put, List.setIfInBounds_toArray, List.set_cons_zero, List.set_cons_succ, i64_w, i32_w]
                                rfl
                              refine pure_ (i := 13) (N := some 4) (v := ?_) (a' := ?_) #[true, true, true, true, true, true, true, true, true, true, true, true, true, true, false] rfl rfl (any_of HT_.out (by kernel_rfl)) (fun _ _ _ h => h) (Or.inl ⟨by rfl, ?_⟩) ?_ ?_
                              rotate_left
                              · intro w'
                                go_simp
                                with_reducible rfl
                              rotate_left
                              · simp only [Act.put, List.setIfInBounds_toArray, List.set_cons_zero, List.set_cons_succ, i64_w, i32_w]
                                rfl
                              refine pure_ (i := 14) (N := some 5) (v := ?_) (a' := ?_) #[true, true, true, true, true, true, true, true, true, true, true, true, true, true, true] rfl rfl (any_of HT_.out (by kernel_rfl)) (fun _ _ _ h => h) (Or.inl ⟨by rfl, ?_⟩) ?_ ?_
                              rotate_left
                              · intro w'
                                go_simp
                                with_reducible rfl
                              rotate_left
                              · simp only [Act.put, List.setIfInBounds_toArray, List.set_cons_zero, List.set_cons_succ, i64_w, i32_w]
                                rfl
                              refine done_ (done_of HT_.out (by kernel_rfl)) ?_
                              try go_wp2
                              go_ret2
                              exact ⟨by first | rfl | (simp [errW_none, errW_some] <;> rfl) | (simp [*, errW_none, errW_some] <;> rfl), by repeat (first | (with_reducible first | exact HB.out | apply below_alloc | apply pw_below_drewN | apply below_drew1 | refine below_set ?_ GE390101.out | refine below_set ?_ GE390107.out) | exact HB.out)⟩
                            · rw [if_neg c83] at H
                              exact absurd H (by simp)
                          · rw [if_neg c81] at H
                            exact absurd H (by simp)
                        · rw [if_neg c80] at H
                          exact absurd H (by simp)
                      · rw [if_neg c78] at H
                        exact absurd H (by simp)
                    · rw [if_neg c76] at H
                      have c76b0 : (a1 == 4) = false := beq_eq_false_iff_ne.mpr c76
                      have c76b1 : (a1 != 4) = true := bne_iff_ne.mpr c76
                      replace H := Option.bind_eq_some_iff.mp H
                      obtain ⟨t390120, A950, H⟩ := H
                      replace H : (if t390120.size + 1 ≤ 9223372036854775807 then ((larderref03_pad.f kj4 t390105 2).bind fun t390121 => (if t390120.size + 1 + t390121.size ≤ 9223372036854775807 then ((larderref03_pad.f kj4 t390106 1).bind fun t390122 => (if t390120.size + 1 + t390121.size + t390122.size ≤ 9223372036854775807 then (some (((t390120 ++ (⟨#[87]⟩ : ByteArray)) ++ t390121) ++ t390122, 0)) else (none))) else (none))) else (none)) = some (r1, r2) := H
                      have A95 := Aside0.mk A950
                      clear A950
                      by_cases c96 : t390120.size + 1 ≤ 9223372036854775807
                      · rw [if_pos c96] at H
                        have c96b0 := eq_true c96
                        have c96b1 : decide (t390120.size + 1 ≤ 9223372036854775807) = true := decide_eq_true c96
                        try have c96b2 : (9223372036854775807 < t390120.size + 1) = False := eq_false (Nat.not_lt.2 c96)
                        replace H := Option.bind_eq_some_iff.mp H
                        obtain ⟨t390121, A970, H⟩ := H
                        replace H : (if t390120.size + 1 + t390121.size ≤ 9223372036854775807 then ((larderref03_pad.f kj4 t390106 1).bind fun t390122 => (if t390120.size + 1 + t390121.size + t390122.size ≤ 9223372036854775807 then (some (((t390120 ++ (⟨#[87]⟩ : ByteArray)) ++ t390121) ++ t390122, 0)) else (none))) else (none)) = some (r1, r2) := H
                        have A97 := Aside0.mk A970
                        clear A970
                        by_cases c98 : t390120.size + 1 + t390121.size ≤ 9223372036854775807
                        · rw [if_pos c98] at H
                          have c98b0 := eq_true c98
                          have c98b1 : decide (t390120.size + 1 + t390121.size ≤ 9223372036854775807) = true := decide_eq_true c98
                          try have c98b2 : (9223372036854775807 < t390120.size + 1 + t390121.size) = False := eq_false (Nat.not_lt.2 c98)
                          replace H := Option.bind_eq_some_iff.mp H
                          obtain ⟨t390122, A990, H⟩ := H
                          replace H : (if t390120.size + 1 + t390121.size + t390122.size ≤ 9223372036854775807 then (some (((t390120 ++ (⟨#[87]⟩ : ByteArray)) ++ t390121) ++ t390122, 0)) else (none)) = some (r1, r2) := H
                          have A99 := Aside0.mk A990
                          clear A990
                          by_cases c100 : t390120.size + 1 + t390121.size + t390122.size ≤ 9223372036854775807
                          · rw [if_pos c100] at H
                            have c100b0 := eq_true c100
                            have c100b1 : decide (t390120.size + 1 + t390121.size + t390122.size ≤ 9223372036854775807) = true := decide_eq_true c100
                            try have c100b2 : (9223372036854775807 < t390120.size + 1 + t390121.size + t390122.size) = False := eq_false (Nat.not_lt.2 c100)
                            simp only [Option.some.injEq, Prod.mk.injEq] at H
                            obtain ⟨rfl, rfl⟩ := H
                            try go_wp2_with (first | ((with_reducible refine gate_callee (f := 75) rfl ?_); refine goesL_ (some 25) rfl rfl Tryd.func75 (by kernel_rfl) rfl #[.int .i64 t390102] rfl (by (try simp only [List.map_toArray, List.map_cons, List.map_nil]); first | done | rfl | (simp only [List.length_drop, List.length_take]; rfl)) ?_; (with_reducible refine (larderref03_week.calls kj4 t390102 t390104 t390105 t390106 _ A11.out).mono ?_); rintro e w101 ⟨rfl, hb⟩; refine ⟨_, rfl, ?_⟩; have n0_ := Aside0.mk (blk_below (g := gb390101) (o := .cells #[.int .i64 a0_0, .int .i64 a0_1, .int .i64 a0_2] 23 (0, 0)) (by (with_reducible repeat (first | refine blk_drewN ?_ _ | refine blk_drew ?_ | refine blk_alloc ?_ _)); exact BK390101.out) hb); have n1_ := Aside0.mk (below_step (by repeat (first | (with_reducible first | exact HB.out | apply below_alloc | apply pw_below_drewN | apply below_drew1 | refine below_set ?_ GE390101.out) | exact HB.out)) hb); clear BK390101; clear HB; have BK390101 := n0_; have HB := n1_; clear n0_ n1_; (try clear hb); (try clear hb2); (try clear hk); (try clear hi)) | ((with_reducible refine gate_dst (N := 8) rfl ?_); refine box_event ?hg (N := 8) ?hd (cs := #[.int .i64 0, .int .i64 0, .int .i64 0]) (t := 86) ?hr ?_; (case hd => rfl); (case hg => rfl); (case hr => first | (go_simp; done) | (go_simp; rfl)); intro gb390107 hg w102 hbox hb; have n0_ := Aside0.mk (blk_below (g := gb390101) (o := .cells #[.int .i64 a0_0, .int .i64 a0_1, .int .i64 a0_2] 23 (0, 0)) (by (with_reducible repeat (first | refine blk_drewN ?_ _ | refine blk_drew ?_ | refine blk_alloc ?_ _)); exact BK390101.out) hb); have n1_ := Aside0.mk (below_step (by repeat (first | (with_reducible first | exact HB.out | apply below_alloc | apply pw_below_drewN | apply below_drew1 | refine below_set ?_ GE390101.out) | exact HB.out)) hb); have n2_ := Aside0.mk (hbox); have n3_ := Aside0.mk ((by rw [hg]; exact (below_size (by repeat (first | (with_reducible first | exact HB.out | apply below_alloc | apply pw_below_drewN | apply below_drew1 | refine below_set ?_ GE390101.out) | exact HB.out))) : w.heap.size ≤ gb390107)); have n4_ := Aside0.mk ((by rw [hg]; exact (below_size (by repeat (first | (with_reducible first | exact HB.out | apply below_alloc | apply pw_below_drewN | apply below_drew1 | refine below_set ?_ GE390101.out) | exact HB.out))) : w.heap.size ≤ gb390107)); have n5_ := Aside0.mk ((by rw [hg]; exact Nat.ne_of_lt (blk_lt (g := gb390101) (o := .cells #[.int .i64 a0_0, .int .i64 a0_1, .int .i64 a0_2] 23 (0, 0)) (by (with_reducible repeat (first | refine blk_drewN ?_ _ | refine blk_drew ?_ | refine blk_alloc ?_ _)); exact BK390101.out)) : gb390101 ≠ gb390107)); have n6_ := Aside0.mk ((by rw [hg]; exact Nat.ne_of_gt (blk_lt (g := gb390101) (o := .cells #[.int .i64 a0_0, .int .i64 a0_1, .int .i64 a0_2] 23 (0, 0)) (by (with_reducible repeat (first | refine blk_drewN ?_ _ | refine blk_drew ?_ | refine blk_alloc ?_ _)); exact BK390101.out)) : gb390107 ≠ gb390101)); clear BK390101; clear HB; have BK390101 := n0_; have HB := n1_; have BK390107 := n2_; have GW390107 := n3_; have GE390107 := n4_; have NB390101_390107 := n5_; have NB390107_390101 := n6_; clear n0_ n1_ n2_ n3_ n4_ n5_ n6_; clear hb hbox hg; have hnb103 := NB390107_390101.out; have hnc103 := NB390101_390107.out; have hcz104_0 : w102.cell? ⟨gb390107, 0, none⟩ = some (.int .i64 0) := (blk_cell BK390107.out 0).trans rfl; have hcz104_1 : w102.cell? ⟨gb390107, 1, none⟩ = some (.int .i64 0) := (blk_cell BK390107.out 1).trans rfl; have hcz104_2 : w102.cell? ⟨gb390107, 2, none⟩ = some (.int .i64 0) := (blk_cell BK390107.out 2).trans rfl; have hfz104_0 := blk_frozen BK390107.out 0; have hfz104_1 := blk_frozen BK390107.out 1; have hfz104_2 := blk_frozen BK390107.out 2; have hcz105_0 : w102.cell? ⟨gb390101, 0, none⟩ = some (.int .i64 a0_0) := (blk_cell BK390101.out 0).trans rfl; have hcz105_1 : w102.cell? ⟨gb390101, 1, none⟩ = some (.int .i64 a0_1) := (blk_cell BK390101.out 1).trans rfl; have hcz105_2 : w102.cell? ⟨gb390101, 2, none⟩ = some (.int .i64 a0_2) := (blk_cell BK390101.out 2).trans rfl; have hfz105_0 := blk_frozen BK390101.out 0; have hfz105_1 := blk_frozen BK390101.out 1; have hfz105_2 := blk_frozen BK390101.out 2) | ((with_reducible refine gate_callee (f := 41) rfl ?_); refine goesL_ (some 28) rfl rfl Tryd.func41 (by kernel_rfl) rfl #[.int .i64 a0_0, .int .i64 4] rfl (by (try simp only [List.map_toArray, List.map_cons, List.map_nil]); first | done | rfl | (simp only [List.length_drop, List.length_take]; rfl)) ?_; (with_reducible refine (larderref03_pad.calls kj4 a0_0 4 t390108 _ A12.out).mono ?_); rintro e w106 ⟨rfl, hb⟩; refine ⟨_, rfl, ?_⟩; have n0_ := Aside0.mk (blk_below (g := gb390101) (o := .cells #[.int .i64 a0_0, .int .i64 a0_1, .int .i64 a0_2] 23 (0, 0)) (by (with_reducible repeat (first | refine blk_drewN ?_ _ | refine blk_drew ?_ | refine blk_alloc ?_ _)); refine blk_far ?_ NB390101_390107.out _; (with_reducible repeat (first | refine blk_drewN ?_ _ | refine blk_drew ?_ | refine blk_alloc ?_ _)); refine blk_far ?_ NB390101_390107.out _; (with_reducible repeat (first | refine blk_drewN ?_ _ | refine blk_drew ?_ | refine blk_alloc ?_ _)); refine blk_far ?_ NB390101_390107.out _; (with_reducible repeat (first | refine blk_drewN ?_ _ | refine blk_drew ?_ | refine blk_alloc ?_ _)); exact BK390101.out) hb); have n1_ := Aside0.mk (blk_below (g := gb390107) (o := .cells #[.int .i64 t390104, .int .i64 t390105, .int .i64 t390106] 86 (0, 0)) (by (with_reducible repeat (first | refine blk_drewN ?_ _ | refine blk_drew ?_ | refine blk_alloc ?_ _)); refine blk_put (cs := #[.int .i64 t390104, .int .i64 t390105, .int .i64 0]) ?_ 2 _ rfl; (with_reducible repeat (first | refine blk_drewN ?_ _ | refine blk_drew ?_ | refine blk_alloc ?_ _)); refine blk_put (cs := #[.int .i64 t390104, .int .i64 0, .int .i64 0]) ?_ 1 _ rfl; (with_reducible repeat (first | refine blk_drewN ?_ _ | refine blk_drew ?_ | refine blk_alloc ?_ _)); refine blk_put (cs := #[.int .i64 0, .int .i64 0, .int .i64 0]) ?_ 0 _ rfl; (with_reducible repeat (first | refine blk_drewN ?_ _ | refine blk_drew ?_ | refine blk_alloc ?_ _)); exact BK390107.out) hb); have n2_ := Aside0.mk (below_step (by repeat (first | (with_reducible first | exact HB.out | apply below_alloc | apply pw_below_drewN | apply below_drew1 | refine below_set ?_ GE390101.out | refine below_set ?_ GE390107.out) | exact HB.out)) hb); clear BK390101; clear BK390107; clear HB; have BK390101 := n0_; have BK390107 := n1_; have HB := n2_; clear n0_ n1_ n2_; (try clear hb); (try clear hb2); (try clear hk); (try clear hi); have hcz107_0 : w106.cell? ⟨gb390107, 0, none⟩ = some (.int .i64 t390104) := (blk_cell BK390107.out 0).trans rfl; have hcz107_1 : w106.cell? ⟨gb390107, 1, none⟩ = some (.int .i64 t390105) := (blk_cell BK390107.out 1).trans rfl; have hcz107_2 : w106.cell? ⟨gb390107, 2, none⟩ = some (.int .i64 t390106) := (blk_cell BK390107.out 2).trans rfl; have hfz107_0 := blk_frozen BK390107.out 0; have hfz107_1 := blk_frozen BK390107.out 1; have hfz107_2 := blk_frozen BK390107.out 2))
                            have n0_ := Aside0.mk (blk_drew BK390101.out)
                            have n1_ := Aside0.mk (blk_drew BK390107.out)
                            have n2_ := Aside0.mk (below_drew1 HB.out)
                            clear BK390101
                            clear BK390107
                            clear HB
                            have BK390101 := n0_
                            have BK390107 := n1_
                            have HB := n2_
                            clear n0_ n1_ n2_
                            refine start_ (n := 14) (S := fun w' => w'.cell? ⟨gb390107, 0, none⟩ = some (.int .i64 t390104) ∧ w'.cell? ⟨gb390107, 1, none⟩ = some (.int .i64 t390105) ∧ w'.cell? ⟨gb390107, 2, none⟩ = some (.int .i64 t390106)) (ds := []) #[false, false, false, false, false, false, false, false, false, false, false, false, false, false] (by kernel_rfl) rfl rfl ⟨(blk_cell BK390107.out 0).trans rfl, (blk_cell BK390107.out 1).trans rfl, (blk_cell BK390107.out 2).trans rfl⟩ (fun hHeld => ?_); refine with_tabW larderref03_PrintDate.tab21 larderref03_PrintDate.bits21 (fun HT_ HW_ => ?_)
                            generalize w106.drew = w108 at BK390101 BK390107 HB hHeld ⊢
                            refine pure_ (i := 0) (N := some 95) (v := ?_) (a' := ?_) #[true, false, false, false, false, false, false, false, false, false, false, false, false, false] rfl rfl (any_of HT_.out (by kernel_rfl)) (fun _ _ _ h => h) (Or.inl ⟨by rfl, ?_⟩) ?_ ?_
                            rotate_left
                            · intro w'
                              go_simp
                              with_reducible rfl
                            rotate_left
                            · simp only [Act.put, List.setIfInBounds_toArray, List.set_cons_zero, List.set_cons_succ, i64_w, i32_w]
                              rfl
                            refine pure_ (i := 4) (N := some 99) (v := ?_) (a' := ?_) #[true, false, false, false, true, false, false, false, false, false, false, false, false, false] rfl rfl (any_of HT_.out (by kernel_rfl)) (fun _ _ _ h => h) (Or.inl ⟨by rfl, ?_⟩) ?_ ?_
                            rotate_left
                            · intro w'
                              go_simp
                              with_reducible rfl
                            rotate_left
                            · simp only [Act.put, List.setIfInBounds_toArray, List.set_cons_zero, List.set_cons_succ, i64_w, i32_w]
                              rfl
                            refine pure_ (i := 8) (N := some 103) (v := ?_) (a' := ?_) #[true, false, false, false, true, false, false, false, true, false, false, false, false, false] rfl rfl (any_of HT_.out (by kernel_rfl)) (fun _ _ _ h => h) (Or.inl ⟨by rfl, ?_⟩) ?_ ?_
                            rotate_left
                            · intro w'
                              go_simp
                              with_reducible rfl
                            rotate_left
                            · simp only [Act.put, List.setIfInBounds_toArray, List.set_cons_zero, List.set_cons_succ, i64_w, i32_w]
                              rfl
                            refine take_ (i := 1) (N := some 96) (v := ?_) (a' := ?_) #[true, true, false, false, true, false, false, false, true, false, false, false, false, false] rfl rfl (take_ofW HT_.out HW_.out (by kernel_rfl)) (fun _ _ _ h => h) (Or.inl ⟨by rfl, ?_⟩) hHeld ?_ ?_
                            rotate_left
                            · rintro w' ⟨s0, s1, s2⟩
                              go_simp
                              with_reducible rfl
                            rotate_left
                            · simp only [Act.put, List.setIfInBounds_toArray, List.set_cons_zero, List.set_cons_succ, i64_w, i32_w]
                              rfl
                            refine take_ (i := 5) (N := some 100) (v := ?_) (a' := ?_) #[true, true, false, false, true, true, false, false, true, false, false, false, false, false] rfl rfl (take_ofW HT_.out HW_.out (by kernel_rfl)) (fun _ _ _ h => h) (Or.inl ⟨by rfl, ?_⟩) hHeld ?_ ?_
                            rotate_left
                            · rintro w' ⟨s0, s1, s2⟩
                              go_simp
                              with_reducible rfl
                            rotate_left
                            · simp only [Act.put, List.setIfInBounds_toArray, List.set_cons_zero, List.set_cons_succ, i64_w, i32_w]
                              rfl
                            refine take_ (i := 9) (N := some 104) (v := ?_) (a' := ?_) #[true, true, false, false, true, true, false, false, true, true, false, false, false, false] rfl rfl (take_ofW HT_.out HW_.out (by kernel_rfl)) (fun _ _ _ h => h) (Or.inl ⟨by rfl, ?_⟩) hHeld ?_ ?_
                            rotate_left
                            · rintro w' ⟨s0, s1, s2⟩
                              go_simp
                              with_reducible rfl
                            rotate_left
                            · simp only [Act.put, List.setIfInBounds_toArray, List.set_cons_zero, List.set_cons_succ, i64_w, i32_w]
                              rfl
                            refine one_ (i := 2) (N := some 97) #[true, true, true, false, true, true, false, false, true, true, false, false, false, false] rfl rfl (one_of HT_.out (by kernel_rfl)) (by decide) (fun K hK => ?_)
                            refine goes_ Tryd.func41 (by kernel_rfl) rfl #[.int .i64 t390104, .int .i64 4] (by rfl) rfl rfl (by (try simp only [List.map_toArray, List.map_cons, List.map_nil]); first | done | rfl | (simp only [List.length_drop, List.length_take]; rfl)) ?_
                            with_reducible refine (larderref03_pad.calls kj4 t390104 4 t390120 _ A95.out).mono ?_
                            rintro e w109 ⟨rfl, hb⟩
                            refine ⟨_, rfl, ?_⟩
                            have n0_ := Aside0.mk (blk_below (g := gb390101) (o := .cells #[.int .i64 a0_0, .int .i64 a0_1, .int .i64 a0_2] 23 (0, 0)) (by (with_reducible repeat (first | refine blk_drewN ?_ _ | refine blk_drew ?_ | refine blk_alloc ?_ _)); exact BK390101.out) hb)
                            have n1_ := Aside0.mk (blk_below (g := gb390107) (o := .cells #[.int .i64 t390104, .int .i64 t390105, .int .i64 t390106] 86 (0, 0)) (by (with_reducible repeat (first | refine blk_drewN ?_ _ | refine blk_drew ?_ | refine blk_alloc ?_ _)); exact BK390107.out) hb)
                            have n2_ := Aside0.mk (below_step (by repeat (first | (with_reducible first | exact HB.out | apply below_alloc | apply pw_below_drewN | apply below_drew1 | refine below_set ?_ GE390101.out | refine below_set ?_ GE390107.out) | exact HB.out)) hb)
                            clear BK390101
                            clear BK390107
                            clear HB
                            have BK390101 := n0_
                            have BK390107 := n1_
                            have HB := n2_
                            clear n0_ n1_ n2_
                            (try clear hb)
                            (try clear hb2)
                            (try clear hk)
                            (try clear hi)
                            refine hK.out _ _ ⟨(blk_cell BK390107.out 0).trans rfl, (blk_cell BK390107.out 1).trans rfl, (blk_cell BK390107.out 2).trans rfl⟩ (fun hHeld => ?_)
                            clear hK K
                            refine norm_ (a' := ?_) ?_ ?_
                            rotate_left
                            · show Act.put _ (some 97) _ = _
                              simp only [Act.put, List.setIfInBounds_toArray, List.set_cons_zero, List.set_cons_succ, i64_w, i32_w]
                              rfl
                            refine pure_ (i := 3) (N := some 98) (v := ?_) (a' := ?_) #[true, true, true, true, true, true, false, false, true, true, false, false, false, false] rfl rfl (any_of HT_.out (by kernel_rfl)) (fun _ _ _ h => h) (Or.inl ⟨by rfl, ?_⟩) ?_ ?_
                            rotate_left
                            · intro w'
                              go_simp
                              with_reducible rfl
                            rotate_left
                            · simp only [Act.put, List.setIfInBounds_toArray, List.set_cons_zero, List.set_cons_succ, i64_w, i32_w]
                              rfl
                            refine one_ (i := 6) (N := some 101) #[true, true, true, true, true, true, true, false, true, true, false, false, false, false] rfl rfl (one_of HT_.out (by kernel_rfl)) (by decide) (fun K hK => ?_)
                            refine goes_ Tryd.func41 (by kernel_rfl) rfl #[.int .i64 t390105, .int .i64 2] (by rfl) rfl rfl (by (try simp only [List.map_toArray, List.map_cons, List.map_nil]); first | done | rfl | (simp only [List.length_drop, List.length_take]; rfl)) ?_
                            with_reducible refine (larderref03_pad.calls kj4 t390105 2 t390121 _ A97.out).mono ?_
                            rintro e w110 ⟨rfl, hb⟩
                            refine ⟨_, rfl, ?_⟩
                            have n0_ := Aside0.mk (blk_below (g := gb390101) (o := .cells #[.int .i64 a0_0, .int .i64 a0_1, .int .i64 a0_2] 23 (0, 0)) (by (with_reducible repeat (first | refine blk_drewN ?_ _ | refine blk_drew ?_ | refine blk_alloc ?_ _)); exact BK390101.out) hb)
                            have n1_ := Aside0.mk (blk_below (g := gb390107) (o := .cells #[.int .i64 t390104, .int .i64 t390105, .int .i64 t390106] 86 (0, 0)) (by (with_reducible repeat (first | refine blk_drewN ?_ _ | refine blk_drew ?_ | refine blk_alloc ?_ _)); exact BK390107.out) hb)
                            have n2_ := Aside0.mk (below_step (by repeat (first | (with_reducible first | exact HB.out | apply below_alloc | apply pw_below_drewN | apply below_drew1 | refine below_set ?_ GE390101.out | refine below_set ?_ GE390107.out) | exact HB.out)) hb)
                            clear BK390101
                            clear BK390107
                            clear HB
                            have BK390101 := n0_
                            have BK390107 := n1_
                            have HB := n2_
                            clear n0_ n1_ n2_
                            (try clear hb)
                            (try clear hb2)
                            (try clear hk)
                            (try clear hi)
                            refine hK.out _ _ ⟨(blk_cell BK390107.out 0).trans rfl, (blk_cell BK390107.out 1).trans rfl, (blk_cell BK390107.out 2).trans rfl⟩ (fun hHeld => ?_)
                            clear hK K
                            refine norm_ (a' := ?_) ?_ ?_
                            rotate_left
                            · show Act.put _ (some 101) _ = _
                              simp only [Act.put, List.setIfInBounds_toArray, List.set_cons_zero, List.set_cons_succ, i64_w, i32_w]
                              rfl
                            refine pure_ (i := 7) (N := some 102) (v := ?_) (a' := ?_) #[true, true, true, true, true, true, true, true, true, true, false, false, false, false] rfl rfl (any_of HT_.out (by kernel_rfl)) (fun _ _ _ h => h) (Or.inl ⟨by rfl, ?_⟩) ?_ ?_
                            rotate_left
                            · intro w'
                              go_simp
                              with_reducible rfl
                            rotate_left
                            · simp only [Act.put, List.setIfInBounds_toArray, List.set_cons_zero, List.set_cons_succ, i64_w, i32_w]
                              rfl
                            refine one_ (i := 10) (N := some 105) #[true, true, true, true, true, true, true, true, true, true, true, false, false, false] rfl rfl (one_of HT_.out (by kernel_rfl)) (by decide) (fun K hK => ?_)
                            refine goes_ Tryd.func41 (by kernel_rfl) rfl #[.int .i64 t390106, .int .i64 1] (by rfl) rfl rfl (by (try simp only [List.map_toArray, List.map_cons, List.map_nil]); first | done | rfl | (simp only [List.length_drop, List.length_take]; rfl)) ?_
                            with_reducible refine (larderref03_pad.calls kj4 t390106 1 t390122 _ A99.out).mono ?_
                            rintro e w111 ⟨rfl, hb⟩
                            refine ⟨_, rfl, ?_⟩
                            have n0_ := Aside0.mk (blk_below (g := gb390101) (o := .cells #[.int .i64 a0_0, .int .i64 a0_1, .int .i64 a0_2] 23 (0, 0)) (by (with_reducible repeat (first | refine blk_drewN ?_ _ | refine blk_drew ?_ | refine blk_alloc ?_ _)); exact BK390101.out) hb)
                            have n1_ := Aside0.mk (blk_below (g := gb390107) (o := .cells #[.int .i64 t390104, .int .i64 t390105, .int .i64 t390106] 86 (0, 0)) (by (with_reducible repeat (first | refine blk_drewN ?_ _ | refine blk_drew ?_ | refine blk_alloc ?_ _)); exact BK390107.out) hb)
                            have n2_ := Aside0.mk (below_step (by repeat (first | (with_reducible first | exact HB.out | apply below_alloc | apply pw_below_drewN | apply below_drew1 | refine below_set ?_ GE390101.out | refine below_set ?_ GE390107.out) | exact HB.out)) hb)
                            clear BK390101
                            clear BK390107
                            clear HB
                            have BK390101 := n0_
                            have BK390107 := n1_
                            have HB := n2_
                            clear n0_ n1_ n2_
                            (try clear hb)
                            (try clear hb2)
                            (try clear hk)
                            (try clear hi)
                            refine hK.out _ _ ⟨(blk_cell BK390107.out 0).trans rfl, (blk_cell BK390107.out 1).trans rfl, (blk_cell BK390107.out 2).trans rfl⟩ (fun hHeld => ?_)
                            clear hK K
                            refine norm_ (a' := ?_) ?_ ?_
                            rotate_left
                            · show Act.put _ (some 105) _ = _
                              simp only [Act.put, List.setIfInBounds_toArray, List.set_cons_zero, List.set_cons_succ, i64_w, i32_w]
                              rfl
                            refine pure_ (i := 11) (N := some 106) (v := ?_) (a' := ?_) #[true, true, true, true, true, true, true, true, true, true, true, true, false, false] rfl rfl (any_of HT_.out (by kernel_rfl)) (fun _ _ _ h => h) (Or.inl ⟨by rfl, ?_⟩) ?_ ?_
                            rotate_left
                            · intro w'
                              go_simp
                              with_reducible rfl
                            rotate_left
                            · simp only [Act.put, List.setIfInBounds_toArray, List.set_cons_zero, List.set_cons_succ, i64_w, i32_w]
                              rfl
                            refine pure_ (i := 12) (N := some 4) (v := ?_) (a' := ?_) #[true, true, true, true, true, true, true, true, true, true, true, true, true, false] rfl rfl (any_of HT_.out (by kernel_rfl)) (fun _ _ _ h => h) (Or.inl ⟨by rfl, ?_⟩) ?_ ?_
                            rotate_left
                            · intro w'
                              go_simp
                              with_reducible rfl
                            rotate_left
                            · simp only [Act.put, List.setIfInBounds_toArray, List.set_cons_zero, List.set_cons_succ, i64_w, i32_w]
                              rfl
                            refine pure_ (i := 13) (N := some 5) (v := ?_) (a' := ?_) #[true, true, true, true, true, true, true, true, true, true, true, true, true, true] rfl rfl (any_of HT_.out (by kernel_rfl)) (fun _ _ _ h => h) (Or.inl ⟨by rfl, ?_⟩) ?_ ?_
                            rotate_left
                            · intro w'
                              go_simp
                              with_reducible rfl
                            rotate_left
                            · simp only [Act.put, List.setIfInBounds_toArray, List.set_cons_zero, List.set_cons_succ, i64_w, i32_w]
                              rfl
                            refine done_ (done_of HT_.out (by kernel_rfl)) ?_
                            try go_wp2
                            go_ret2
                            exact ⟨by first | rfl | (simp [errW_none, errW_some] <;> rfl) | (simp [*, errW_none, errW_some] <;> rfl), by repeat (first | (with_reducible first | exact HB.out | apply below_alloc | apply pw_below_drewN | apply below_drew1 | refine below_set ?_ GE390101.out | refine below_set ?_ GE390107.out) | exact HB.out)⟩
                          · rw [if_neg c100] at H
                            exact absurd H (by simp)
                        · rw [if_neg c98] at H
                          exact absurd H (by simp)
                      · rw [if_neg c96] at H
                        exact absurd H (by simp)
  · rw [if_neg c4] at H
    have c4b0 : (t390103 == 0) = false := beq_eq_false_iff_ne.mpr c4
    have c4b1 : (t390103 != 0) = true := bne_iff_ne.mpr c4
    simp only [Option.some.injEq, Prod.mk.injEq] at H
    obtain ⟨rfl, rfl⟩ := H
    go_enter Tryd.func39, Tryd.ntmps39
    go_wp2_with (first | ((with_reducible refine gate_dst (N := 2) rfl ?_); refine box_event ?hg (N := 2) ?hd (cs := #[.int .i64 a0_0, .int .i64 a0_1, .int .i64 a0_2]) (t := 23) ?hr ?_; (case hd => rfl); (case hg => rfl); (case hr => first | (go_simp; done) | (go_simp; rfl)); intro gb390101 hg w112 hbox hb; have n0_ := Aside0.mk (below_step (by repeat (first | (with_reducible first | exact HB.out | apply below_alloc | apply pw_below_drewN | apply below_drew1) | exact HB.out)) hb); have n1_ := Aside0.mk (hbox); have n2_ := Aside0.mk ((by rw [hg]; exact (below_size (by repeat (first | (with_reducible first | exact HB.out | apply below_alloc | apply pw_below_drewN | apply below_drew1) | exact HB.out))) : w.heap.size ≤ gb390101)); have n3_ := Aside0.mk ((by rw [hg]; exact (below_size (by repeat (first | (with_reducible first | exact HB.out | apply below_alloc | apply pw_below_drewN | apply below_drew1) | exact HB.out))) : w.heap.size ≤ gb390101)); clear HB; have HB := n0_; have BK390101 := n1_; have GW390101 := n2_; have GE390101 := n3_; clear n0_ n1_ n2_ n3_; clear hb hbox hg; have hcz113_0 : w112.cell? ⟨gb390101, 0, none⟩ = some (.int .i64 a0_0) := (blk_cell BK390101.out 0).trans rfl; have hcz113_1 : w112.cell? ⟨gb390101, 1, none⟩ = some (.int .i64 a0_1) := (blk_cell BK390101.out 1).trans rfl; have hcz113_2 : w112.cell? ⟨gb390101, 2, none⟩ = some (.int .i64 a0_2) := (blk_cell BK390101.out 2).trans rfl; have hfz113_0 := blk_frozen BK390101.out 0; have hfz113_1 := blk_frozen BK390101.out 1; have hfz113_2 := blk_frozen BK390101.out 2) | ((with_reducible refine gate_callee (f := 74) rfl ?_); refine goesL_ (some 12) rfl rfl Tryd.func74 (by kernel_rfl) rfl #[.agg #[.int .i64 a0_0, .int .i64 a0_1, .int .i64 a0_2]] rfl (by (try simp only [List.map_toArray, List.map_cons, List.map_nil]); first | done | rfl | (simp only [List.length_drop, List.length_take]; rfl)) ?_; (with_reducible refine (larderref03_Days.calls k a0_0 a0_1 a0_2 t390102 t390103 _ A3.out).mono ?_); rintro e w114 ⟨rfl, hb⟩; refine ⟨_, rfl, ?_⟩; have n0_ := Aside0.mk (blk_below (g := gb390101) (o := .cells #[.int .i64 a0_0, .int .i64 a0_1, .int .i64 a0_2] 23 (0, 0)) (by (with_reducible repeat (first | refine blk_drewN ?_ _ | refine blk_drew ?_ | refine blk_alloc ?_ _)); exact BK390101.out) hb); have n1_ := Aside0.mk (below_step (by repeat (first | (with_reducible first | exact HB.out | apply below_alloc | apply pw_below_drewN | apply below_drew1 | refine below_set ?_ GE390101.out) | exact HB.out)) hb); clear BK390101; clear HB; have BK390101 := n0_; have HB := n1_; clear n0_ n1_; (try clear hb); (try clear hb2); (try clear hk); (try clear hi)))
    go_ret2
    exact ⟨by first | rfl | (simp [errW_none, errW_some] <;> rfl) | (simp [*, errW_none, errW_some] <;> rfl), by repeat (first | (with_reducible first | exact HB.out | apply below_alloc | apply pw_below_drewN | apply below_drew1 | refine below_set ?_ GE390101.out) | exact HB.out)⟩

end Go.Proofs.YtiklakkkgmilnaaDoor.GC
