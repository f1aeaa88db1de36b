-- written by a program (gp.py over the kit's print) for this claim
import Derived.Test.YtiklakkkgmilnaaDoorGCx0
import Derived.Test.YtiklakkkgmilnaaDoorGCxf71
import Derived.Test.YtiklakkkgmilnaaDoorGCxf38
import Derived.Test.YtiklakkkgmilnaaDoorGCxf73
namespace Go.Proofs.YtiklakkkgmilnaaDoor.GC
open Go.RowKit Go.Proofs.YtiklakkkgmilnaaDoorW.PrintWords Go.Proofs.YtiklakkkgmilnaaDoorW.PrintLast Go.Proofs.YtiklakkkgmilnaaDoor.Ext Go.Proofs.YtiklakkkgmilnaaDoor.PCal
attribute [local go_sem] max2_int min2_int max_two min_two   -- for this text alone
set_option linter.unusedVariables false
set_option linter.unusedSimpArgs false

/-! ### cal_PrintDate: function 37 -/
def cal_PrintDate.j0 : Nat → Int → Bool → Int → Int → Int → Int → Int → Int → Option (ByteArray × Int)
 | 0, _, _, _, _, _, _, _, _ => none
 | k + 1, x1, x23, x370102000, x370102001, x370102002, x370107000, x370107001, x370107002 => if x23 = true then (some ((⟨#[]⟩ : ByteArray), 2)) else ((cal_pad.f k x370102000 4).bind fun t370107 => ((cal_number.f x370102000 x370102001 x370102002).bind fun t370108 => ((cal_begin.f x370102000).bind fun t370109 => (if x1 = 0 then (if t370107.size + 1 ≤ 9223372036854775807 then ((cal_pad.f k x370102001 2).bind fun t370110 => (if t370107.size + 1 + t370110.size ≤ 9223372036854775807 then (if t370107.size + 1 + t370110.size + 1 ≤ 9223372036854775807 then ((cal_pad.f k x370102002 2).bind fun t370111 => (if t370107.size + 1 + t370110.size + 1 + t370111.size ≤ 9223372036854775807 then (some ((((t370107 ++ (⟨#[45]⟩ : ByteArray)) ++ t370110) ++ (⟨#[45]⟩ : ByteArray)) ++ t370111, 0)) else (none))) else (none)) else (none))) else (none)) else (if x1 = 1 then ((cal_pad.f k x370102001 2).bind fun t370112 => (if t370107.size + t370112.size ≤ 9223372036854775807 then ((cal_pad.f k x370102002 2).bind fun t370113 => (if t370107.size + t370112.size + t370113.size ≤ 9223372036854775807 then (some ((t370107 ++ t370112) ++ t370113, 0)) else (none))) else (none))) else (if x1 = 2 then (if t370107.size + 1 ≤ 9223372036854775807 then ((cal_pad.f k (wrap64 ((wrap64 (t370108 - t370109)) + 1)) 3).bind fun t370114 => (if t370107.size + 1 + t370114.size ≤ 9223372036854775807 then (some ((t370107 ++ (⟨#[45]⟩ : ByteArray)) ++ t370114, 0)) else (none))) else (none)) else (if x1 = 3 then ((cal_pad.f k (wrap64 ((wrap64 (t370108 - t370109)) + 1)) 3).bind fun t370115 => (if t370107.size + t370115.size ≤ 9223372036854775807 then (some (t370107 ++ t370115, 0)) else (none))) else (if x370107000 < 0 then (some ((⟨#[]⟩ : ByteArray), 35)) else ((cal_pad.f k x370107000 4).bind fun t370116 => (if x1 = 4 then (if t370116.size + 2 ≤ 9223372036854775807 then ((cal_pad.f k x370107001 2).bind fun t370117 => (if t370116.size + 2 + t370117.size ≤ 9223372036854775807 then (if t370116.size + 2 + t370117.size + 1 ≤ 9223372036854775807 then ((cal_pad.f k x370107002 1).bind fun t370118 => (if t370116.size + 2 + t370117.size + 1 + t370118.size ≤ 9223372036854775807 then (some ((((t370116 ++ (⟨#[45, 87]⟩ : ByteArray)) ++ t370117) ++ (⟨#[45]⟩ : ByteArray)) ++ t370118, 0)) else (none))) else (none)) else (none))) else (none)) else (if t370116.size + 1 ≤ 9223372036854775807 then ((cal_pad.f k x370107001 2).bind fun t370119 => (if t370116.size + 1 + t370119.size ≤ 9223372036854775807 then ((cal_pad.f k x370107002 1).bind fun t370120 => (if t370116.size + 1 + t370119.size + t370120.size ≤ 9223372036854775807 then (some (((t370116 ++ (⟨#[87]⟩ : ByteArray)) ++ t370119) ++ t370120, 0)) else (none))) else (none))) else (none))))))))))))
def cal_PrintDate.f (k : Nat) (a0_0 : Int) (a0_1 : Int) (a0_2 : Int) (a1 : Int) : Option (ByteArray × Int) := (cal_WeekOf.f a0_0 a0_1 a0_2).bind fun bt370102 => (if bt370102.2.2.2 = 0 then (if a1 < 0 then (cal_PrintDate.j0 k a1 true a0_0 a0_1 a0_2 bt370102.1 bt370102.2.1 bt370102.2.2.1) else (cal_PrintDate.j0 k a1 (decide (a1 > 5)) a0_0 a0_1 a0_2 bt370102.1 bt370102.2.1 bt370102.2.2.1)) else (some ((⟨#[]⟩ : ByteArray), bt370102.2.2.2)))
theorem cal_PrintDate.mono_l : ∀ k, (∀ y0 y1 y2 y3 y4 y5 y6 y7, LeO (cal_PrintDate.j0 k y0 y1 y2 y3 y4 y5 y6 y7) (cal_PrintDate.j0 (k + 1) y0 y1 y2 y3 y4 y5 y6 y7))
 | 0 => fun _ _ _ _ _ _ _ _ r h => by simp [cal_PrintDate.j0] at h
 | k + 1 => by
  have ih0 := cal_PrintDate.mono_l k
  ·intro y0 y1 y2 y3 y4 y5 y6 y7
   unfold cal_PrintDate.j0
   repeat' first
   | (with_reducible exact ih0 _ _ _ _ _ _ _ _)
   | (with_reducible exact cal_pad.mono _ _ _)
   | (with_reducible exact LeO.refl _)
   | (with_reducible exact LeO.none _)
   | (with_reducible refine LeO.ite ?_ ?_)
   | (with_reducible refine LeO.bind ?_ (fun _ => ?_))
   | exact ih0 _ _ _ _ _ _ _ _
   | exact cal_pad.mono _ _ _
   | exact LeO.none _
   | refine LeO.ite ?_ ?_
   | refine LeO.bind ?_ (fun _ => ?_)
theorem cal_PrintDate.mono : ∀ a0 a1 a2 a3 k, LeO (cal_PrintDate.f k a0 a1 a2 a3) (cal_PrintDate.f (k + 1) a0 a1 a2 a3) := by
 intro a0 a1 a2 a3 k
 have ih0 := cal_PrintDate.mono_l k
 unfold cal_PrintDate.f
 repeat' first
   | (with_reducible exact ih0 _ _ _ _ _ _ _ _)
   | (with_reducible exact cal_pad.mono _ _ _)
   | (with_reducible exact LeO.refl _)
   | (with_reducible exact LeO.none _)
   | (with_reducible refine LeO.ite ?_ ?_)
   | (with_reducible refine LeO.bind ?_ (fun _ => ?_))
   | exact ih0 _ _ _ _ _ _ _ _
   | exact cal_pad.mono _ _ _
   | exact LeO.none _
   | refine LeO.ite ?_ ?_
   | refine LeO.bind ?_ (fun _ => ?_)
def cal_PrintDate.T7 : Bool × List (List Nat × List Nat) := (true, [([], []), ([0], [0]), ([], []), ([2], [2]), ([3, 1], [3]), ([1, 4], [1, 4]), ([5], [5]), ([6, 4, 0, 1, 2, 3, 4, 5, 6], [6])])
def cal_PrintDate.B7 : List Nat := [0, 1, 0, 4, 15, 31, 63, 127]
theorem cal_PrintDate.tab7 : rtab .any (opsOf Tryd.f37 7) = cal_PrintDate.T7 := by kernel_rfl
theorem cal_PrintDate.bits7 : waitsOk cal_PrintDate.T7.2 cal_PrintDate.B7 = true := by kernel_rfl
def cal_PrintDate.T10 : Bool × List (List Nat × List Nat) := (true, [([], []), ([0], [0]), ([], []), ([2], [2]), ([3], [3]), ([1, 4], [1, 4]), ([5], [5]), ([], []), ([7], [7]), ([8, 4], [8]), ([6, 9], [6, 9]), ([10, 9, 0, 1, 2, 3, 4, 5, 6, 7, 8, 9, 10], [10]), ([11, 0, 1, 2, 3, 4, 5, 6, 7, 8, 9, 10, 11], [])])
def cal_PrintDate.B10 : List Nat := [0, 1, 0, 4, 12, 31, 63, 0, 128, 412, 1023, 2047, 4095]
theorem cal_PrintDate.tab10 : rtab .any (opsOf Tryd.f37 10) = cal_PrintDate.T10 := by kernel_rfl
theorem cal_PrintDate.bits10 : waitsOk cal_PrintDate.T10.2 cal_PrintDate.B10 = true := by kernel_rfl
def cal_PrintDate.T12 : Bool × List (List Nat × List Nat) := (true, [([], []), ([], []), ([1], [1]), ([2], [2]), ([0, 3], [0, 3]), ([], []), ([5], [5]), ([6, 3], [6]), ([4, 7], [4, 7]), ([8, 7, 0, 1, 2, 3, 4, 5, 6, 7, 8], [8]), ([9, 0, 1, 2, 3, 4, 5, 6, 7, 8, 9], [])])
def cal_PrintDate.B12 : List Nat := [0, 0, 2, 6, 15, 0, 32, 110, 255, 511, 1023]
theorem cal_PrintDate.tab12 : rtab .any (opsOf Tryd.f37 12) = cal_PrintDate.T12 := by kernel_rfl
theorem cal_PrintDate.bits12 : waitsOk cal_PrintDate.T12.2 cal_PrintDate.B12 = true := by kernel_rfl
def cal_PrintDate.T21 : Bool × List (List Nat × List Nat) := (true, [([], []), ([0], [0]), ([], []), ([2], [2]), ([3], [3]), ([1, 4], [1, 4]), ([5], [5]), ([], []), ([7], [7]), ([8, 4], [8]), ([6, 9], [6, 9]), ([10, 9, 0, 1, 2, 3, 4, 5, 6, 7, 8, 9, 10], [10]), ([11, 0, 1, 2, 3, 4, 5, 6, 7, 8, 9, 10, 11], [])])
def cal_PrintDate.B21 : List Nat := [0, 1, 0, 4, 12, 31, 63, 0, 128, 412, 1023, 2047, 4095]
theorem cal_PrintDate.tab21 : rtab .any (opsOf Tryd.f37 21) = cal_PrintDate.T21 := by kernel_rfl
theorem cal_PrintDate.bits21 : waitsOk cal_PrintDate.T21.2 cal_PrintDate.B21 = true := by kernel_rfl
def cal_PrintDate.T22 : Bool × List (List Nat × List Nat) := (true, [([], []), ([0], [0]), ([], []), ([2], [2]), ([3], [3]), ([1, 4], [1, 4]), ([], []), ([6], [6]), ([7, 4], [7]), ([5, 8], [5, 8]), ([9, 8, 0, 1, 2, 3, 4, 5, 6, 7, 8, 9], [9]), ([10, 0, 1, 2, 3, 4, 5, 6, 7, 8, 9, 10], [])])
def cal_PrintDate.B22 : List Nat := [0, 1, 0, 4, 12, 31, 0, 64, 220, 511, 1023, 2047]
theorem cal_PrintDate.tab22 : rtab .any (opsOf Tryd.f37 22) = cal_PrintDate.T22 := by kernel_rfl
theorem cal_PrintDate.bits22 : waitsOk cal_PrintDate.T22.2 cal_PrintDate.B22 = true := by kernel_rfl
set_option maxHeartbeats 8000000 in
set_option maxRecDepth 100000 in
theorem cal_PrintDate.calls (k : Nat) (a0_0 : Int) (a0_1 : Int) (a0_2 : Int) (a1 : Int) (r1 : ByteArray) (r2 : Int) (w : World) (hG : GlobOk w) (h : cal_PrintDate.f k a0_0 a0_1 a0_2 a1 = some (r1, r2)) :
  Calls Tryd.prog 37 #[.agg #[.int .i64 a0_0, .int .i64 a0_1, .int .i64 a0_2], .int .i64 a1] w fun e w' => e = .returned (.tuple #[.string r1, .int .i64 r2]) ∧ Below w.heap.size w w' := by
 have HG := Aside0.mk hG
 clear hG
 have hu23 := Tryd.underlying23
 have hu86 := Tryd.underlying86
 have HB := Aside0.mk (Below.refl w.heap.size w)
 have H : ((cal_WeekOf.f a0_0 a0_1 a0_2).bind fun bt370102 => (if bt370102.2.2.2 = 0 then (if a1 < 0 then (cal_PrintDate.j0 k a1 true a0_0 a0_1 a0_2 bt370102.1 bt370102.2.1 bt370102.2.2.1) else (cal_PrintDate.j0 k a1 (decide (a1 > 5)) a0_0 a0_1 a0_2 bt370102.1 bt370102.2.1 bt370102.2.2.1)) else (some ((⟨#[]⟩ : ByteArray), bt370102.2.2.2)))) = some (r1, r2) := h
 clear h
 replace H := Option.bind_eq_some_iff.mp H
 obtain ⟨⟨t370102, t370103, t370104, t370105⟩, A30, H⟩ := H
 replace H : (if t370105 = 0 then (if a1 < 0 then (cal_PrintDate.j0 k a1 true a0_0 a0_1 a0_2 t370102 t370103 t370104) else (cal_PrintDate.j0 k a1 (decide (a1 > 5)) a0_0 a0_1 a0_2 t370102 t370103 t370104)) else (some ((⟨#[]⟩ : ByteArray), t370105))) = some (r1, r2) := H
 have A3 := Aside0.mk A30
 clear A30
 by_cases c4 : t370105 = 0
 ·rw [if_pos c4] at H
  have c4b0 : (t370105 == 0) = true := beq_iff_eq.mpr c4
  have c4b1 : (t370105 != 0) = false := bne_eq_false_iff_eq.mpr c4
  clear c4
  have HC5 := Aside0.mk H
  clear H
  go_enter Tryd.func37, Tryd.ntmps37
  go_upto_region 4 with (first | ((with_reducible refine gate_dst (N := 2) rfl ?_); refine box_event ?hg (N := 2) ?hd (cs := #[.int .i64 a0_0, .int .i64 a0_1, .int .i64 a0_2]) (t := 23) ?hr ?_; (case hd => rfl); (case hg => rfl); (case hr => first | (go_simp; done) | (go_simp; rfl)); intro gb370101 hg w6 hbox hb; have n0_ := Aside0.mk (below_step (by repeat (first | (with_reducible first | exact HB.out | apply below_alloc | apply pw_below_drewN | apply below_drew1) | exact HB.out)) hb); have n1_ := Aside0.mk (hbox); have n2_ := Aside0.mk ((by rw [hg]; exact (below_size (by repeat (first | (with_reducible first | exact HB.out | apply below_alloc | apply pw_below_drewN | apply below_drew1) | exact HB.out))) : w.heap.size ≤ gb370101)); have n3_ := Aside0.mk ((by rw [hg]; exact (below_size (by repeat (first | (with_reducible first | exact HB.out | apply below_alloc | apply pw_below_drewN | apply below_drew1) | exact HB.out))) : w.heap.size ≤ gb370101)); clear HB; have HB := n0_; have BK370101 := n1_; have GW370101 := n2_; have GE370101 := n3_; clear n0_ n1_ n2_ n3_; clear hb hbox hg; have hcz7_0 : w6.cell? ⟨gb370101, 0, none⟩ = some (.int .i64 a0_0) := (blk_cell BK370101.out 0).trans rfl; have hcz7_1 : w6.cell? ⟨gb370101, 1, none⟩ = some (.int .i64 a0_1) := (blk_cell BK370101.out 1).trans rfl; have hcz7_2 : w6.cell? ⟨gb370101, 2, none⟩ = some (.int .i64 a0_2) := (blk_cell BK370101.out 2).trans rfl; have hfz7_0 := blk_frozen BK370101.out 0; have hfz7_1 := blk_frozen BK370101.out 1; have hfz7_2 := blk_frozen BK370101.out 2) | ((with_reducible refine gate_callee (f := 73) rfl ?_); refine goesL_ (some 12) rfl rfl Tryd.func73 (by kernel_rfl) rfl #[.agg #[.int .i64 a0_0, .int .i64 a0_1, .int .i64 a0_2]] rfl (by (try simp only [List.map_toArray, List.map_cons, List.map_nil]); first | done | rfl | (simp only [List.length_drop, List.length_take]; rfl)) ?_; (with_reducible refine (cal_WeekOf.calls a0_0 a0_1 a0_2 t370102 t370103 t370104 t370105 _ ?side1 A3.out).mono ?_); (case side1 => refine GlobOk.below HG.out ?_; repeat (first | (with_reducible first | exact HB.out | apply below_alloc | apply pw_below_drewN | apply below_drew1 | refine below_set ?_ GE370101.out) | exact HB.out)); rintro e w8 ⟨rfl, hb⟩; refine ⟨_, rfl, ?_⟩; have n0_ := Aside0.mk (blk_below (g := gb370101) (o := .cells #[.int .i64 a0_0, .int .i64 a0_1, .int .i64 a0_2] 23 (0, 0)) (by (with_reducible repeat (first | refine blk_drewN ?_ _ | refine blk_drew ?_ | refine blk_alloc ?_ _)); exact BK370101.out) hb); have n1_ := Aside0.mk (below_step (by repeat (first | (with_reducible first | exact HB.out | apply below_alloc | apply pw_below_drewN | apply below_drew1 | refine below_set ?_ GE370101.out) | exact HB.out)) hb); clear BK370101; clear HB; have BK370101 := n0_; have HB := n1_; clear n0_ n1_; (try clear hb); (try clear hb2); (try clear hk); (try clear hi)) | ((with_reducible refine gate_dst (N := 6) rfl ?_); refine box_event ?hg (N := 6) ?hd (cs := #[.int .i64 0, .int .i64 0, .int .i64 0]) (t := 86) ?hr ?_; (case hd => rfl); (case hg => rfl); (case hr => first | (go_simp; done) | (go_simp; rfl)); intro gb370106 hg w9 hbox hb; have n0_ := Aside0.mk (blk_below (g := gb370101) (o := .cells #[.int .i64 a0_0, .int .i64 a0_1, .int .i64 a0_2] 23 (0, 0)) (by (with_reducible repeat (first | refine blk_drewN ?_ _ | refine blk_drew ?_ | refine blk_alloc ?_ _)); exact BK370101.out) hb); have n1_ := Aside0.mk (below_step (by repeat (first | (with_reducible first | exact HB.out | apply below_alloc | apply pw_below_drewN | apply below_drew1 | refine below_set ?_ GE370101.out) | exact HB.out)) hb); have n2_ := Aside0.mk (hbox); have n3_ := Aside0.mk ((by rw [hg]; exact (below_size (by repeat (first | (with_reducible first | exact HB.out | apply below_alloc | apply pw_below_drewN | apply below_drew1 | refine below_set ?_ GE370101.out) | exact HB.out))) : w.heap.size ≤ gb370106)); have n4_ := Aside0.mk ((by rw [hg]; exact (below_size (by repeat (first | (with_reducible first | exact HB.out | apply below_alloc | apply pw_below_drewN | apply below_drew1 | refine below_set ?_ GE370101.out) | exact HB.out))) : w.heap.size ≤ gb370106)); have n5_ := Aside0.mk ((by rw [hg]; exact Nat.ne_of_lt (blk_lt (g := gb370101) (o := .cells #[.int .i64 a0_0, .int .i64 a0_1, .int .i64 a0_2] 23 (0, 0)) (by (with_reducible repeat (first | refine blk_drewN ?_ _ | refine blk_drew ?_ | refine blk_alloc ?_ _)); exact BK370101.out)) : gb370101 ≠ gb370106)); have n6_ := Aside0.mk ((by rw [hg]; exact Nat.ne_of_gt (blk_lt (g := gb370101) (o := .cells #[.int .i64 a0_0, .int .i64 a0_1, .int .i64 a0_2] 23 (0, 0)) (by (with_reducible repeat (first | refine blk_drewN ?_ _ | refine blk_drew ?_ | refine blk_alloc ?_ _)); exact BK370101.out)) : gb370106 ≠ gb370101)); clear BK370101; clear HB; have BK370101 := n0_; have HB := n1_; have BK370106 := n2_; have GW370106 := n3_; have GE370106 := n4_; have NB370101_370106 := n5_; have NB370106_370101 := n6_; clear n0_ n1_ n2_ n3_ n4_ n5_ n6_; clear hb hbox hg; have hnb10 := NB370106_370101.out; have hnc10 := NB370101_370106.out; have hcz11_0 : w9.cell? ⟨gb370106, 0, none⟩ = some (.int .i64 0) := (blk_cell BK370106.out 0).trans rfl; have hcz11_1 : w9.cell? ⟨gb370106, 1, none⟩ = some (.int .i64 0) := (blk_cell BK370106.out 1).trans rfl; have hcz11_2 : w9.cell? ⟨gb370106, 2, none⟩ = some (.int .i64 0) := (blk_cell BK370106.out 2).trans rfl; have hfz11_0 := blk_frozen BK370106.out 0; have hfz11_1 := blk_frozen BK370106.out 1; have hfz11_2 := blk_frozen BK370106.out 2))
  (try simp only [Act.put, List.setIfInBounds_toArray, List.set_cons_zero, List.set_cons_succ])
  go_cut [23] (fun v23 wc => ∃ (kq : Nat) (x23_4 : Bool), v23 = .bool x23_4 ∧ Aside0 (cal_PrintDate.j0 kq a1 x23_4 a0_0 a0_1 a0_2 t370102 t370103 t370104 = some (r1, r2)) ∧ Aside0 (kq ≤ k) ∧ Aside0 (wc.heap[gb370101]? = some (.cells #[.int .i64 a0_0, .int .i64 a0_1, .int .i64 a0_2] 23 (0, 0))) ∧ Aside0 (wc.heap[gb370106]? = some (.cells #[.int .i64 t370102, .int .i64 t370103, .int .i64 t370104] 86 (0, 0))) ∧ Aside0 (Below w.heap.size w wc))
  case first =>
   have H := HC5.out
   clear HC5
   by_cases c12 : a1 < 0
   ·rw [if_pos c12] at H
    have c12b0 : decide (a1 < 0) = true := decide_eq_true c12
    clear c12
    (first | rw [c12b0] | (simp only [i64_w, i32_w]; rw [c12b0]) | skip)
    have H' := Aside0.mk H
    clear H
    go_wp2
    go_meet
    case rel => exact ⟨_, (true), (by first | rfl | (simp; done) | (simp [*]; done)), H', ⟨by first | omega | exact Nat.le_refl _⟩, ⟨by (with_reducible repeat (first | refine blk_drewN ?_ _ | refine blk_drew ?_ | refine blk_alloc ?_ _)); refine blk_far ?_ NB370101_370106.out _; (with_reducible repeat (first | refine blk_drewN ?_ _ | refine blk_drew ?_ | refine blk_alloc ?_ _)); refine blk_far ?_ NB370101_370106.out _; (with_reducible repeat (first | refine blk_drewN ?_ _ | refine blk_drew ?_ | refine blk_alloc ?_ _)); refine blk_far ?_ NB370101_370106.out _; (with_reducible repeat (first | refine blk_drewN ?_ _ | refine blk_drew ?_ | refine blk_alloc ?_ _)); exact BK370101.out⟩, ⟨by (with_reducible repeat (first | refine blk_drewN ?_ _ | refine blk_drew ?_ | refine blk_alloc ?_ _)); refine blk_put (cs := #[.int .i64 t370102, .int .i64 t370103, .int .i64 0]) ?_ 2 _ rfl; (with_reducible repeat (first | refine blk_drewN ?_ _ | refine blk_drew ?_ | refine blk_alloc ?_ _)); refine blk_put (cs := #[.int .i64 t370102, .int .i64 0, .int .i64 0]) ?_ 1 _ rfl; (with_reducible repeat (first | refine blk_drewN ?_ _ | refine blk_drew ?_ | refine blk_alloc ?_ _)); refine blk_put (cs := #[.int .i64 0, .int .i64 0, .int .i64 0]) ?_ 0 _ rfl; (with_reducible repeat (first | refine blk_drewN ?_ _ | refine blk_drew ?_ | refine blk_alloc ?_ _)); exact BK370106.out⟩, ⟨by repeat (first | (with_reducible first | exact HB.out | apply below_alloc | apply pw_below_drewN | apply below_drew1 | refine below_set ?_ GE370101.out | refine below_set ?_ GE370106.out) | exact HB.out)⟩⟩
   ·rw [if_neg c12] at H
    have c12b0 : decide (a1 < 0) = false := decide_eq_false c12
    clear c12
    (first | rw [c12b0] | (simp only [i64_w, i32_w]; rw [c12b0]) | skip)
    have H' := Aside0.mk H
    clear H
    go_wp2
    go_meet
    case rel => exact ⟨_, (decide (a1 > 5)), (by first | rfl | (simp; done) | (simp [*]; done)), H', ⟨by first | omega | exact Nat.le_refl _⟩, ⟨by (with_reducible repeat (first | refine blk_drewN ?_ _ | refine blk_drew ?_ | refine blk_alloc ?_ _)); refine blk_far ?_ NB370101_370106.out _; (with_reducible repeat (first | refine blk_drewN ?_ _ | refine blk_drew ?_ | refine blk_alloc ?_ _)); refine blk_far ?_ NB370101_370106.out _; (with_reducible repeat (first | refine blk_drewN ?_ _ | refine blk_drew ?_ | refine blk_alloc ?_ _)); refine blk_far ?_ NB370101_370106.out _; (with_reducible repeat (first | refine blk_drewN ?_ _ | refine blk_drew ?_ | refine blk_alloc ?_ _)); exact BK370101.out⟩, ⟨by (with_reducible repeat (first | refine blk_drewN ?_ _ | refine blk_drew ?_ | refine blk_alloc ?_ _)); refine blk_put (cs := #[.int .i64 t370102, .int .i64 t370103, .int .i64 0]) ?_ 2 _ rfl; (with_reducible repeat (first | refine blk_drewN ?_ _ | refine blk_drew ?_ | refine blk_alloc ?_ _)); refine blk_put (cs := #[.int .i64 t370102, .int .i64 0, .int .i64 0]) ?_ 1 _ rfl; (with_reducible repeat (first | refine blk_drewN ?_ _ | refine blk_drew ?_ | refine blk_alloc ?_ _)); refine blk_put (cs := #[.int .i64 0, .int .i64 0, .int .i64 0]) ?_ 0 _ rfl; (with_reducible repeat (first | refine blk_drewN ?_ _ | refine blk_drew ?_ | refine blk_alloc ?_ _)); exact BK370106.out⟩, ⟨by repeat (first | (with_reducible first | exact HB.out | apply below_alloc | apply pw_below_drewN | apply below_drew1 | refine below_set ?_ GE370101.out | refine below_set ?_ GE370106.out) | exact HB.out)⟩⟩
  case rest =>
   clear HC5
   try clear c1
   try clear p2
   try clear c3
   try clear c4
   try clear c4b0
   try clear c4b1
   try clear c7
   try clear c10
   try clear c12
   try clear c12b0
   try clear hcz11_0
   try clear hcz11_1
   try clear hcz11_2
   try clear hcz7_0
   try clear hcz7_1
   try clear hcz7_2
   try clear hfz11_0
   try clear hfz11_1
   try clear hfz11_2
   try clear hfz7_0
   try clear hfz7_1
   try clear hfz7_2
   obtain ⟨kq, x23_4, rfl, HA, HJ4, BK370101, BK370106, HB⟩ := hcut
   cases kq with
   | zero => exact absurd HA.out (by simp [cal_PrintDate.j0])
   | succ kj4 =>
    have H := HA.out
    clear HA
    simp only [cal_PrintDate.j0] at H
    by_cases c13 : x23_4 = true
    ·subst c13
     have H1 : (some ((⟨#[]⟩ : ByteArray), 2)) = some (r1, r2) := by rw [if_pos rfl] at H; exact H
     clear H
     have H := H1
     clear H1
     simp only [Option.some.injEq, Prod.mk.injEq] at H
     obtain ⟨rfl, rfl⟩ := H
     go_wp2
     go_ret2
     exact ⟨by first | rfl | (simp [errW_none, errW_some] <;> rfl) | (simp [*, errW_none, errW_some] <;> rfl), by repeat (first | (with_reducible first | exact HB.out | apply below_alloc | apply pw_below_drewN | apply below_drew1 | refine below_set ?_ GE370101.out | refine below_set ?_ GE370106.out) | exact HB.out)⟩
    ·replace c13 := Bool.eq_false_iff.mpr c13
     subst c13
     have H1 : ((cal_pad.f kj4 a0_0 4).bind fun t370107 => ((cal_number.f a0_0 a0_1 a0_2).bind fun t370108 => ((cal_begin.f a0_0).bind fun t370109 => (if a1 = 0 then (if t370107.size + 1 ≤ 9223372036854775807 then ((cal_pad.f kj4 a0_1 2).bind fun t370110 => (if t370107.size + 1 + t370110.size ≤ 9223372036854775807 then (if t370107.size + 1 + t370110.size + 1 ≤ 9223372036854775807 then ((cal_pad.f kj4 a0_2 2).bind fun t370111 => (if t370107.size + 1 + t370110.size + 1 + t370111.size ≤ 9223372036854775807 then (some ((((t370107 ++ (⟨#[45]⟩ : ByteArray)) ++ t370110) ++ (⟨#[45]⟩ : ByteArray)) ++ t370111, 0)) else (none))) else (none)) else (none))) else (none)) else (if a1 = 1 then ((cal_pad.f kj4 a0_1 2).bind fun t370112 => (if t370107.size + t370112.size ≤ 9223372036854775807 then ((cal_pad.f kj4 a0_2 2).bind fun t370113 => (if t370107.size + t370112.size + t370113.size ≤ 9223372036854775807 then (some ((t370107 ++ t370112) ++ t370113, 0)) else (none))) else (none))) else (if a1 = 2 then (if t370107.size + 1 ≤ 9223372036854775807 then ((cal_pad.f kj4 (wrap64 ((wrap64 (t370108 - t370109)) + 1)) 3).bind fun t370114 => (if t370107.size + 1 + t370114.size ≤ 9223372036854775807 then (some ((t370107 ++ (⟨#[45]⟩ : ByteArray)) ++ t370114, 0)) else (none))) else (none)) else (if a1 = 3 then ((cal_pad.f kj4 (wrap64 ((wrap64 (t370108 - t370109)) + 1)) 3).bind fun t370115 => (if t370107.size + t370115.size ≤ 9223372036854775807 then (some (t370107 ++ t370115, 0)) else (none))) else (if t370102 < 0 then (some ((⟨#[]⟩ : ByteArray), 35)) else ((cal_pad.f kj4 t370102 4).bind fun t370116 => (if a1 = 4 then (if t370116.size + 2 ≤ 9223372036854775807 then ((cal_pad.f kj4 t370103 2).bind fun t370117 => (if t370116.size + 2 + t370117.size ≤ 9223372036854775807 then (if t370116.size + 2 + t370117.size + 1 ≤ 9223372036854775807 then ((cal_pad.f kj4 t370104 1).bind fun t370118 => (if t370116.size + 2 + t370117.size + 1 + t370118.size ≤ 9223372036854775807 then (some ((((t370116 ++ (⟨#[45, 87]⟩ : ByteArray)) ++ t370117) ++ (⟨#[45]⟩ : ByteArray)) ++ t370118, 0)) else (none))) else (none)) else (none))) else (none)) else (if t370116.size + 1 ≤ 9223372036854775807 then ((cal_pad.f kj4 t370103 2).bind fun t370119 => (if t370116.size + 1 + t370119.size ≤ 9223372036854775807 then ((cal_pad.f kj4 t370104 1).bind fun t370120 => (if t370116.size + 1 + t370119.size + t370120.size ≤ 9223372036854775807 then (some (((t370116 ++ (⟨#[87]⟩ : ByteArray)) ++ t370119) ++ t370120, 0)) else (none))) else (none))) else (none)))))))))))) = some (r1, r2) := by rw [if_neg (show ¬ (false = true) by decide)] at H; exact H
     clear H
     have H := H1
     clear H1
     replace H := Option.bind_eq_some_iff.mp H
     obtain ⟨t370107, A140, H⟩ := H
     replace H : ((cal_number.f a0_0 a0_1 a0_2).bind fun t370108 => ((cal_begin.f a0_0).bind fun t370109 => (if a1 = 0 then (if t370107.size + 1 ≤ 9223372036854775807 then ((cal_pad.f kj4 a0_1 2).bind fun t370110 => (if t370107.size + 1 + t370110.size ≤ 9223372036854775807 then (if t370107.size + 1 + t370110.size + 1 ≤ 9223372036854775807 then ((cal_pad.f kj4 a0_2 2).bind fun t370111 => (if t370107.size + 1 + t370110.size + 1 + t370111.size ≤ 9223372036854775807 then (some ((((t370107 ++ (⟨#[45]⟩ : ByteArray)) ++ t370110) ++ (⟨#[45]⟩ : ByteArray)) ++ t370111, 0)) else (none))) else (none)) else (none))) else (none)) else (if a1 = 1 then ((cal_pad.f kj4 a0_1 2).bind fun t370112 => (if t370107.size + t370112.size ≤ 9223372036854775807 then ((cal_pad.f kj4 a0_2 2).bind fun t370113 => (if t370107.size + t370112.size + t370113.size ≤ 9223372036854775807 then (some ((t370107 ++ t370112) ++ t370113, 0)) else (none))) else (none))) else (if a1 = 2 then (if t370107.size + 1 ≤ 9223372036854775807 then ((cal_pad.f kj4 (wrap64 ((wrap64 (t370108 - t370109)) + 1)) 3).bind fun t370114 => (if t370107.size + 1 + t370114.size ≤ 9223372036854775807 then (some ((t370107 ++ (⟨#[45]⟩ : ByteArray)) ++ t370114, 0)) else (none))) else (none)) else (if a1 = 3 then ((cal_pad.f kj4 (wrap64 ((wrap64 (t370108 - t370109)) + 1)) 3).bind fun t370115 => (if t370107.size + t370115.size ≤ 9223372036854775807 then (some (t370107 ++ t370115, 0)) else (none))) else (if t370102 < 0 then (some ((⟨#[]⟩ : ByteArray), 35)) else ((cal_pad.f kj4 t370102 4).bind fun t370116 => (if a1 = 4 then (if t370116.size + 2 ≤ 9223372036854775807 then ((cal_pad.f kj4 t370103 2).bind fun t370117 => (if t370116.size + 2 + t370117.size ≤ 9223372036854775807 then (if t370116.size + 2 + t370117.size + 1 ≤ 9223372036854775807 then ((cal_pad.f kj4 t370104 1).bind fun t370118 => (if t370116.size + 2 + t370117.size + 1 + t370118.size ≤ 9223372036854775807 then (some ((((t370116 ++ (⟨#[45, 87]⟩ : ByteArray)) ++ t370117) ++ (⟨#[45]⟩ : ByteArray)) ++ t370118, 0)) else (none))) else (none)) else (none))) else (none)) else (if t370116.size + 1 ≤ 9223372036854775807 then ((cal_pad.f kj4 t370103 2).bind fun t370119 => (if t370116.size + 1 + t370119.size ≤ 9223372036854775807 then ((cal_pad.f kj4 t370104 1).bind fun t370120 => (if t370116.size + 1 + t370119.size + t370120.size ≤ 9223372036854775807 then (some (((t370116 ++ (⟨#[87]⟩ : ByteArray)) ++ t370119) ++ t370120, 0)) else (none))) else (none))) else (none))))))))))) = some (r1, r2) := H
     have A14 := Aside0.mk A140
     clear A140
     replace H := Option.bind_eq_some_iff.mp H
     obtain ⟨t370108, A150, H⟩ := H
     replace H : ((cal_begin.f a0_0).bind fun t370109 => (if a1 = 0 then (if t370107.size + 1 ≤ 9223372036854775807 then ((cal_pad.f kj4 a0_1 2).bind fun t370110 => (if t370107.size + 1 + t370110.size ≤ 9223372036854775807 then (if t370107.size + 1 + t370110.size + 1 ≤ 9223372036854775807 then ((cal_pad.f kj4 a0_2 2).bind fun t370111 => (if t370107.size + 1 + t370110.size + 1 + t370111.size ≤ 9223372036854775807 then (some ((((t370107 ++ (⟨#[45]⟩ : ByteArray)) ++ t370110) ++ (⟨#[45]⟩ : ByteArray)) ++ t370111, 0)) else (none))) else (none)) else (none))) else (none)) else (if a1 = 1 then ((cal_pad.f kj4 a0_1 2).bind fun t370112 => (if t370107.size + t370112.size ≤ 9223372036854775807 then ((cal_pad.f kj4 a0_2 2).bind fun t370113 => (if t370107.size + t370112.size + t370113.size ≤ 9223372036854775807 then (some ((t370107 ++ t370112) ++ t370113, 0)) else (none))) else (none))) else (if a1 = 2 then (if t370107.size + 1 ≤ 9223372036854775807 then ((cal_pad.f kj4 (wrap64 ((wrap64 (t370108 - t370109)) + 1)) 3).bind fun t370114 => (if t370107.size + 1 + t370114.size ≤ 9223372036854775807 then (some ((t370107 ++ (⟨#[45]⟩ : ByteArray)) ++ t370114, 0)) else (none))) else (none)) else (if a1 = 3 then ((cal_pad.f kj4 (wrap64 ((wrap64 (t370108 - t370109)) + 1)) 3).bind fun t370115 => (if t370107.size + t370115.size ≤ 9223372036854775807 then (some (t370107 ++ t370115, 0)) else (none))) else (if t370102 < 0 then (some ((⟨#[]⟩ : ByteArray), 35)) else ((cal_pad.f kj4 t370102 4).bind fun t370116 => (if a1 = 4 then (if t370116.size + 2 ≤ 9223372036854775807 then ((cal_pad.f kj4 t370103 2).bind fun t370117 => (if t370116.size + 2 + t370117.size ≤ 9223372036854775807 then (if t370116.size + 2 + t370117.size + 1 ≤ 9223372036854775807 then ((cal_pad.f kj4 t370104 1).bind fun t370118 => (if t370116.size + 2 + t370117.size + 1 + t370118.size ≤ 9223372036854775807 then (some ((((t370116 ++ (⟨#[45, 87]⟩ : ByteArray)) ++ t370117) ++ (⟨#[45]⟩ : ByteArray)) ++ t370118, 0)) else (none))) else (none)) else (none))) else (none)) else (if t370116.size + 1 ≤ 9223372036854775807 then ((cal_pad.f kj4 t370103 2).bind fun t370119 => (if t370116.size + 1 + t370119.size ≤ 9223372036854775807 then ((cal_pad.f kj4 t370104 1).bind fun t370120 => (if t370116.size + 1 + t370119.size + t370120.size ≤ 9223372036854775807 then (some (((t370116 ++ (⟨#[87]⟩ : ByteArray)) ++ t370119) ++ t370120, 0)) else (none))) else (none))) else (none)))))))))) = some (r1, r2) := H
     have A15 := Aside0.mk A150
     clear A150
     replace H := Option.bind_eq_some_iff.mp H
     obtain ⟨t370109, A160, H⟩ := H
     replace H : (if a1 = 0 then (if t370107.size + 1 ≤ 9223372036854775807 then ((cal_pad.f kj4 a0_1 2).bind fun t370110 => (if t370107.size + 1 + t370110.size ≤ 9223372036854775807 then (if t370107.size + 1 + t370110.size + 1 ≤ 9223372036854775807 then ((cal_pad.f kj4 a0_2 2).bind fun t370111 => (if t370107.size + 1 + t370110.size + 1 + t370111.size ≤ 9223372036854775807 then (some ((((t370107 ++ (⟨#[45]⟩ : ByteArray)) ++ t370110) ++ (⟨#[45]⟩ : ByteArray)) ++ t370111, 0)) else (none))) else (none)) else (none))) else (none)) else (if a1 = 1 then ((cal_pad.f kj4 a0_1 2).bind fun t370112 => (if t370107.size + t370112.size ≤ 9223372036854775807 then ((cal_pad.f kj4 a0_2 2).bind fun t370113 => (if t370107.size + t370112.size + t370113.size ≤ 9223372036854775807 then (some ((t370107 ++ t370112) ++ t370113, 0)) else (none))) else (none))) else (if a1 = 2 then (if t370107.size + 1 ≤ 9223372036854775807 then ((cal_pad.f kj4 (wrap64 ((wrap64 (t370108 - t370109)) + 1)) 3).bind fun t370114 => (if t370107.size + 1 + t370114.size ≤ 9223372036854775807 then (some ((t370107 ++ (⟨#[45]⟩ : ByteArray)) ++ t370114, 0)) else (none))) else (none)) else (if a1 = 3 then ((cal_pad.f kj4 (wrap64 ((wrap64 (t370108 - t370109)) + 1)) 3).bind fun t370115 => (if t370107.size + t370115.size ≤ 9223372036854775807 then (some (t370107 ++ t370115, 0)) else (none))) else (if t370102 < 0 then (some ((⟨#[]⟩ : ByteArray), 35)) else ((cal_pad.f kj4 t370102 4).bind fun t370116 => (if a1 = 4 then (if t370116.size + 2 ≤ 9223372036854775807 then ((cal_pad.f kj4 t370103 2).bind fun t370117 => (if t370116.size + 2 + t370117.size ≤ 9223372036854775807 then (if t370116.size + 2 + t370117.size + 1 ≤ 9223372036854775807 then ((cal_pad.f kj4 t370104 1).bind fun t370118 => (if t370116.size + 2 + t370117.size + 1 + t370118.size ≤ 9223372036854775807 then (some ((((t370116 ++ (⟨#[45, 87]⟩ : ByteArray)) ++ t370117) ++ (⟨#[45]⟩ : ByteArray)) ++ t370118, 0)) else (none))) else (none)) else (none))) else (none)) else (if t370116.size + 1 ≤ 9223372036854775807 then ((cal_pad.f kj4 t370103 2).bind fun t370119 => (if t370116.size + 1 + t370119.size ≤ 9223372036854775807 then ((cal_pad.f kj4 t370104 1).bind fun t370120 => (if t370116.size + 1 + t370119.size + t370120.size ≤ 9223372036854775807 then (some (((t370116 ++ (⟨#[87]⟩ : ByteArray)) ++ t370119) ++ t370120, 0)) else (none))) else (none))) else (none))))))))) = some (r1, r2) := H
     have A16 := Aside0.mk A160
     clear A160
     by_cases c17 : a1 = 0
     ·rw [if_pos c17] at H
      have c17b0 : (a1 == 0) = true := beq_iff_eq.mpr c17
      have c17b1 : (a1 != 0) = false := bne_eq_false_iff_eq.mpr c17
      clear c17
      by_cases c18 : t370107.size + 1 ≤ 9223372036854775807
      ·rw [if_pos c18] at H
       have c18b0 := eq_true c18
       have c18b1 : decide (t370107.size + 1 ≤ 9223372036854775807) = true := decide_eq_true c18
       try have c18b2 : (9223372036854775807 < t370107.size + 1) = False := eq_false (Nat.not_lt.2 c18)
       replace H := Option.bind_eq_some_iff.mp H
       obtain ⟨t370110, A190, H⟩ := H
       replace H : (if t370107.size + 1 + t370110.size ≤ 9223372036854775807 then (if t370107.size + 1 + t370110.size + 1 ≤ 9223372036854775807 then ((cal_pad.f kj4 a0_2 2).bind fun t370111 => (if t370107.size + 1 + t370110.size + 1 + t370111.size ≤ 9223372036854775807 then (some ((((t370107 ++ (⟨#[45]⟩ : ByteArray)) ++ t370110) ++ (⟨#[45]⟩ : ByteArray)) ++ t370111, 0)) else (none))) else (none)) else (none)) = some (r1, r2) := H
       have A19 := Aside0.mk A190
       clear A190
       by_cases c20 : t370107.size + 1 + t370110.size ≤ 9223372036854775807
       ·rw [if_pos c20] at H
        have c20b0 := eq_true c20
        have c20b1 : decide (t370107.size + 1 + t370110.size ≤ 9223372036854775807) = true := decide_eq_true c20
        try have c20b2 : (9223372036854775807 < t370107.size + 1 + t370110.size) = False := eq_false (Nat.not_lt.2 c20)
        by_cases c21 : t370107.size + 1 + t370110.size + 1 ≤ 9223372036854775807
        ·rw [if_pos c21] at H
         have c21b0 := eq_true c21
         have c21b1 : decide (t370107.size + 1 + t370110.size + 1 ≤ 9223372036854775807) = true := decide_eq_true c21
         try have c21b2 : (9223372036854775807 < t370107.size + 1 + t370110.size + 1) = False := eq_false (Nat.not_lt.2 c21)
         replace H := Option.bind_eq_some_iff.mp H
         obtain ⟨t370111, A220, H⟩ := H
         replace H : (if t370107.size + 1 + t370110.size + 1 + t370111.size ≤ 9223372036854775807 then (some ((((t370107 ++ (⟨#[45]⟩ : ByteArray)) ++ t370110) ++ (⟨#[45]⟩ : ByteArray)) ++ t370111, 0)) else (none)) = some (r1, r2) := H
         have A22 := Aside0.mk A220
         clear A220
         by_cases c23 : t370107.size + 1 + t370110.size + 1 + t370111.size ≤ 9223372036854775807
         ·rw [if_pos c23] at H
          have c23b0 := eq_true c23
          have c23b1 : decide (t370107.size + 1 + t370110.size + 1 + t370111.size ≤ 9223372036854775807) = true := decide_eq_true c23
          try have c23b2 : (9223372036854775807 < t370107.size + 1 + t370110.size + 1 + t370111.size) = False := eq_false (Nat.not_lt.2 c23)
          simp only [Option.some.injEq, Prod.mk.injEq] at H
          obtain ⟨rfl, rfl⟩ := H
          have hnb24 := NB370101_370106.out
          have hnc24 := NB370106_370101.out
          have hcz25_0 : wc.cell? ⟨gb370101, 0, none⟩ = some (.int .i64 a0_0) := (blk_cell BK370101.out 0).trans rfl
          have hcz25_1 : wc.cell? ⟨gb370101, 1, none⟩ = some (.int .i64 a0_1) := (blk_cell BK370101.out 1).trans rfl
          have hcz25_2 : wc.cell? ⟨gb370101, 2, none⟩ = some (.int .i64 a0_2) := (blk_cell BK370101.out 2).trans rfl
          have hfz25_0 := blk_frozen BK370101.out 0
          have hfz25_1 := blk_frozen BK370101.out 1
          have hfz25_2 := blk_frozen BK370101.out 2
          try go_wp2_with (first | ((with_reducible refine gate_callee (f := 38) rfl ?_); refine goesL_ (some 26) rfl rfl Tryd.func38 (by kernel_rfl) rfl #[.int .i64 a0_0, .int .i64 4] rfl (by (try simp only [List.map_toArray, List.map_cons, List.map_nil]); first | done | rfl | (simp only [List.length_drop, List.length_take]; rfl)) ?_; (with_reducible refine (cal_pad.calls kj4 a0_0 4 t370107 _ A14.out).mono ?_); rintro e w26 ⟨rfl, hb⟩; refine ⟨_, rfl, ?_⟩; have n0_ := Aside0.mk (blk_below (g := gb370101) (o := .cells #[.int .i64 a0_0, .int .i64 a0_1, .int .i64 a0_2] 23 (0, 0)) (by (with_reducible repeat (first | refine blk_drewN ?_ _ | refine blk_drew ?_ | refine blk_alloc ?_ _)); exact BK370101.out) hb); have n1_ := Aside0.mk (blk_below (g := gb370106) (o := .cells #[.int .i64 t370102, .int .i64 t370103, .int .i64 t370104] 86 (0, 0)) (by (with_reducible repeat (first | refine blk_drewN ?_ _ | refine blk_drew ?_ | refine blk_alloc ?_ _)); exact BK370106.out) hb); have n2_ := Aside0.mk (below_step (by repeat (first | (with_reducible first | exact HB.out | apply below_alloc | apply pw_below_drewN | apply below_drew1 | refine below_set ?_ GE370101.out | refine below_set ?_ GE370106.out) | exact HB.out)) hb); clear BK370101; clear BK370106; clear HB; have BK370101 := n0_; have BK370106 := n1_; have HB := n2_; clear n0_ n1_ n2_; (try clear hb); (try clear hb2); (try clear hk); (try clear hi)))
          have n0_ := Aside0.mk (blk_drew BK370101.out)
          have n1_ := Aside0.mk (blk_drew BK370106.out)
          have n2_ := Aside0.mk (below_drew1 HB.out)
          clear BK370101
          clear BK370106
          clear HB
          have BK370101 := n0_
          have BK370106 := n1_
          have HB := n2_
          clear n0_ n1_ n2_
          refine start_ (n := 8) (S := fun w' => w'.cell? ⟨gb370101, 0, none⟩ = some (.int .i64 a0_0) ∧ w'.cell? ⟨gb370101, 1, none⟩ = some (.int .i64 a0_1) ∧ w'.cell? ⟨gb370101, 2, none⟩ = some (.int .i64 a0_2)) (ds := []) #[false, false, false, false, false, false, false, false] (by kernel_rfl) rfl rfl ⟨(blk_cell BK370101.out 0).trans rfl, (blk_cell BK370101.out 1).trans rfl, (blk_cell BK370101.out 2).trans rfl⟩ (fun hHeld => ?_); refine with_tabW cal_PrintDate.tab7 cal_PrintDate.bits7 (fun HT_ HW_ => ?_)
          generalize w26.drew = w27 at BK370101 BK370106 HB hHeld ⊢
          refine pure_ (i := 2) (N := some 29) (v := ?_) (a' := ?_) #[false, false, true, false, false, false, false, false] rfl rfl (any_of HT_.out (by kernel_rfl)) (fun _ _ _ h => h) (Or.inl ⟨by rfl, ?_⟩) ?_ ?_
          rotate_left
          ·intro w'
           go_simp
           with_reducible rfl
          rotate_left
          ·simp only [Act.put, List.setIfInBounds_toArray, List.set_cons_zero, List.set_cons_succ, i64_w, i32_w]
           rfl
          refine take_ (i := 0) (N := some 27) (v := ?_) (a' := ?_) #[true, false, true, false, false, false, false, false] rfl rfl (take_ofW HT_.out HW_.out (by kernel_rfl)) (fun _ _ _ h => h) (Or.inl ⟨by rfl, ?_⟩) hHeld ?_ ?_
          rotate_left
          ·rintro w' ⟨s0, s1, s2⟩
           go_simp
           with_reducible rfl
          rotate_left
          ·simp only [Act.put, List.setIfInBounds_toArray, List.set_cons_zero, List.set_cons_succ, i64_w, i32_w]
           rfl
          refine take_ (i := 3) (N := some 30) (v := ?_) (a' := ?_) #[true, false, true, true, false, false, false, false] rfl rfl (take_ofW HT_.out HW_.out (by kernel_rfl)) (fun _ _ _ h => h) (Or.inl ⟨by rfl, ?_⟩) hHeld ?_ ?_
          rotate_left
          ·rintro w' ⟨s0, s1, s2⟩
           go_simp
           with_reducible rfl
          rotate_left
          ·simp only [Act.put, List.setIfInBounds_toArray, List.set_cons_zero, List.set_cons_succ, i64_w, i32_w]
           rfl
          refine one_ (i := 1) (N := some 28) #[true, true, true, true, false, false, false, false] rfl rfl (one_of HT_.out (by kernel_rfl)) (by decide) (fun K hK => ?_)
          refine goes_ Tryd.func34 (by kernel_rfl) rfl #[.agg #[.int .i64 a0_0, .int .i64 a0_1, .int .i64 a0_2]] (by rfl) rfl rfl (by (try simp only [List.map_toArray, List.map_cons, List.map_nil]); first | done | rfl | (simp only [List.length_drop, List.length_take]; rfl)) ?_
          with_reducible refine (cal_number.calls a0_0 a0_1 a0_2 t370108 _ ?side1 A15.out).mono ?_
          (case side1 => refine GlobOk.below HG.out ?_; repeat (first | (with_reducible first | exact HB.out | apply below_alloc | apply pw_below_drewN | apply below_drew1 | refine below_set ?_ GE370101.out | refine below_set ?_ GE370106.out) | exact HB.out))
          rintro e w28 ⟨rfl, hb⟩
          refine ⟨_, rfl, ?_⟩
          have n0_ := Aside0.mk (blk_below (g := gb370101) (o := .cells #[.int .i64 a0_0, .int .i64 a0_1, .int .i64 a0_2] 23 (0, 0)) (by (with_reducible repeat (first | refine blk_drewN ?_ _ | refine blk_drew ?_ | refine blk_alloc ?_ _)); exact BK370101.out) hb)
          have n1_ := Aside0.mk (blk_below (g := gb370106) (o := .cells #[.int .i64 t370102, .int .i64 t370103, .int .i64 t370104] 86 (0, 0)) (by (with_reducible repeat (first | refine blk_drewN ?_ _ | refine blk_drew ?_ | refine blk_alloc ?_ _)); exact BK370106.out) hb)
          have n2_ := Aside0.mk (below_step (by repeat (first | (with_reducible first | exact HB.out | apply below_alloc | apply pw_below_drewN | apply below_drew1 | refine below_set ?_ GE370101.out | refine below_set ?_ GE370106.out) | exact HB.out)) hb)
          clear BK370101
          clear BK370106
          clear HB
          have BK370101 := n0_
          have BK370106 := n1_
          have HB := n2_
          clear n0_ n1_ n2_
          (try clear hb)
          (try clear hb2)
          (try clear hk)
          (try clear hi)
          refine hK.out _ _ ⟨(blk_cell BK370101.out 0).trans rfl, (blk_cell BK370101.out 1).trans rfl, (blk_cell BK370101.out 2).trans rfl⟩ (fun hHeld => ?_)
          clear hK K
          refine norm_ (a' := ?_) ?_ ?_
          rotate_left
          ·show Act.put _ (some 28) _ = _
           simp only [Act.put, List.setIfInBounds_toArray, List.set_cons_zero, List.set_cons_succ, i64_w, i32_w]
           rfl
          refine one_ (i := 4) (N := some 31) #[true, true, true, true, true, false, false, false] rfl rfl (one_of HT_.out (by kernel_rfl)) (by decide) (fun K hK => ?_)
          refine goes_ Tryd.func71 (by kernel_rfl) rfl #[.int .i64 a0_0] (by rfl) rfl rfl (by (try simp only [List.map_toArray, List.map_cons, List.map_nil]); first | done | rfl | (simp only [List.length_drop, List.length_take]; rfl)) ?_
          with_reducible refine (cal_begin.calls a0_0 t370109 _ A16.out).mono ?_
          rintro e w' ⟨rfl, ⟨nd, rfl⟩⟩
          refine ⟨_, rfl, ?_⟩
          refine hK.out _ _ ⟨(blk_cell BK370101.out 0).trans rfl, (blk_cell BK370101.out 1).trans rfl, (blk_cell BK370101.out 2).trans rfl⟩ (fun hHeld => ?_)
          clear hK K
          refine norm_ (a' := ?_) ?_ ?_
          rotate_left
          ·show Act.put _ (some 31) _ = _
           simp only [Act.put, List.setIfInBounds_toArray, List.set_cons_zero, List.set_cons_succ, i64_w, i32_w]
           rfl
          refine pure_ (i := 5) (N := some 32) (v := ?_) (a' := ?_) #[true, true, true, true, true, true, false, false] rfl rfl (any_of HT_.out (by kernel_rfl)) (fun _ _ _ h => h) (Or.inl ⟨by rfl, ?_⟩) ?_ ?_
          rotate_left
          ·intro w'
           go_simp
           with_reducible rfl
          rotate_left
          ·simp only [Act.put, List.setIfInBounds_toArray, List.set_cons_zero, List.set_cons_succ, i64_w, i32_w]
           rfl
          refine pure_ (i := 6) (N := some 33) (v := ?_) (a' := ?_) #[true, true, true, true, true, true, true, false] rfl rfl (any_of HT_.out (by kernel_rfl)) (fun _ _ _ h => h) (Or.inl ⟨by rfl, ?_⟩) ?_ ?_
          rotate_left
          ·intro w'
           go_simp
           with_reducible rfl
          rotate_left
          ·simp only [Act.put, List.setIfInBounds_toArray, List.set_cons_zero, List.set_cons_succ, i64_w, i32_w]
           rfl
          refine pure_ (i := 7) (N := some 9) (v := ?_) (a' := ?_) #[true, true, true, true, true, true, true, true] rfl rfl (any_of HT_.out (by kernel_rfl)) (fun _ _ _ h => h) (Or.inl ⟨by rfl, ?_⟩) ?_ ?_
          rotate_left
          ·intro w'
           go_simp
           with_reducible rfl
          rotate_left
          ·simp only [Act.put, List.setIfInBounds_toArray, List.set_cons_zero, List.set_cons_succ, i64_w, i32_w]
           rfl
          refine done_ (done_of HT_.out (by kernel_rfl)) ?_
          try go_wp2
          (try (rw [drewN_self w28]; generalize hq_ : World.drewN w28 _ = w28; have n0_ : Aside0 (w28.heap[gb370101]? = some (.cells #[.int .i64 a0_0, .int .i64 a0_1, .int .i64 a0_2] 23 (0, 0))) := ⟨by rw [← hq_]; exact (by (with_reducible repeat (first | refine blk_drewN ?_ _ | refine blk_drew ?_ | refine blk_alloc ?_ _)); exact BK370101.out)⟩; have n1_ : Aside0 (w28.heap[gb370106]? = some (.cells #[.int .i64 t370102, .int .i64 t370103, .int .i64 t370104] 86 (0, 0))) := ⟨by rw [← hq_]; exact (by (with_reducible repeat (first | refine blk_drewN ?_ _ | refine blk_drew ?_ | refine blk_alloc ?_ _)); exact BK370106.out)⟩; have n2_ : Aside0 (Below w.heap.size w w28) := ⟨by rw [← hq_]; exact (by repeat (first | (with_reducible first | exact HB.out | apply below_alloc | apply pw_below_drewN | apply below_drew1 | refine below_set ?_ GE370101.out | refine below_set ?_ GE370106.out) | exact HB.out))⟩; clear BK370101 BK370106 HB hq_; have BK370101 := n0_; have BK370106 := n1_; have HB := n2_; clear n0_ n1_ n2_))
          have n0_ := Aside0.mk (blk_drew BK370101.out)
          have n1_ := Aside0.mk (blk_drew BK370106.out)
          have n2_ := Aside0.mk (below_drew1 HB.out)
          clear BK370101
          clear BK370106
          clear HB
          have BK370101 := n0_
          have BK370106 := n1_
          have HB := n2_
          clear n0_ n1_ n2_
          refine start_ (n := 13) (S := fun w' => w'.cell? ⟨gb370101, 0, none⟩ = some (.int .i64 a0_0) ∧ w'.cell? ⟨gb370101, 1, none⟩ = some (.int .i64 a0_1) ∧ w'.cell? ⟨gb370101, 2, none⟩ = some (.int .i64 a0_2)) (ds := []) #[false, false, false, false, false, false, false, false, false, false, false, false, false] (by kernel_rfl) rfl rfl ⟨(blk_cell BK370101.out 0).trans rfl, (blk_cell BK370101.out 1).trans rfl, (blk_cell BK370101.out 2).trans rfl⟩ (fun hHeld => ?_); refine with_tabW cal_PrintDate.tab10 cal_PrintDate.bits10 (fun HT_ HW_ => ?_)
          generalize w28.drew = w29 at BK370101 BK370106 HB hHeld ⊢
          refine pure_ (i := 0) (N := some 37) (v := ?_) (a' := ?_) #[true, false, false, false, false, false, false, false, false, false, false, false, false] rfl rfl (any_of HT_.out (by kernel_rfl)) (fun _ _ _ h => h) (Or.inl ⟨by rfl, ?_⟩) ?_ ?_
          rotate_left
          ·intro w'
           go_simp
           with_reducible rfl
          rotate_left
          ·simp only [Act.put, List.setIfInBounds_toArray, List.set_cons_zero, List.set_cons_succ, i64_w, i32_w]
           rfl
          refine pure_ (i := 1) (N := some 38) (v := ?_) (a' := ?_) #[true, true, false, false, false, false, false, false, false, false, false, false, false] rfl rfl (any_of HT_.out (by kernel_rfl)) (fun _ _ _ h => h) (Or.inl ⟨by rfl, ?_⟩) ?_ ?_
          rotate_left
          ·intro w'
           go_simp
           with_reducible rfl
          rotate_left
          ·simp only [Act.put, List.setIfInBounds_toArray, List.set_cons_zero, List.set_cons_succ, i64_w, i32_w]
           rfl
          refine pure_ (i := 2) (N := some 39) (v := ?_) (a' := ?_) #[true, true, true, false, false, false, false, false, false, false, false, false, false] rfl rfl (any_of HT_.out (by kernel_rfl)) (fun _ _ _ h => h) (Or.inl ⟨by rfl, ?_⟩) ?_ ?_
          rotate_left
          ·intro w'
           go_simp
           with_reducible rfl
          rotate_left
          ·simp only [Act.put, List.setIfInBounds_toArray, List.set_cons_zero, List.set_cons_succ, i64_w, i32_w]
           rfl
          refine pure_ (i := 7) (N := some 44) (v := ?_) (a' := ?_) #[true, true, true, false, false, false, false, true, false, false, false, false, false] rfl rfl (any_of HT_.out (by kernel_rfl)) (fun _ _ _ h => h) (Or.inl ⟨by rfl, ?_⟩) ?_ ?_
          rotate_left
          ·intro w'
           go_simp
           with_reducible rfl
          rotate_left
          ·simp only [Act.put, List.setIfInBounds_toArray, List.set_cons_zero, List.set_cons_succ, i64_w, i32_w]
           rfl
          refine take_ (i := 3) (N := some 40) (v := ?_) (a' := ?_) #[true, true, true, true, false, false, false, true, false, false, false, false, false] rfl rfl (take_ofW HT_.out HW_.out (by kernel_rfl)) (fun _ _ _ h => h) (Or.inl ⟨by rfl, ?_⟩) hHeld ?_ ?_
          rotate_left
          ·rintro w' ⟨s0, s1, s2⟩
           go_simp
           with_reducible rfl
          rotate_left
          ·simp only [Act.put, List.setIfInBounds_toArray, List.set_cons_zero, List.set_cons_succ, i64_w, i32_w]
           rfl
          refine take_ (i := 8) (N := some 45) (v := ?_) (a' := ?_) #[true, true, true, true, false, false, false, true, true, false, false, false, false] rfl rfl (take_ofW HT_.out HW_.out (by kernel_rfl)) (fun _ _ _ h => h) (Or.inl ⟨by rfl, ?_⟩) hHeld ?_ ?_
          rotate_left
          ·rintro w' ⟨s0, s1, s2⟩
           go_simp
           with_reducible rfl
          rotate_left
          ·simp only [Act.put, List.setIfInBounds_toArray, List.set_cons_zero, List.set_cons_succ, i64_w, i32_w]
           rfl
          refine one_ (i := 4) (N := some 41) #[true, true, true, true, true, false, false, true, true, false, false, false, false] rfl rfl (one_of HT_.out (by kernel_rfl)) (by decide) (fun K hK => ?_)
          refine goes_ Tryd.func38 (by kernel_rfl) rfl #[.int .i64 a0_1, .int .i64 2] (by rfl) rfl rfl (by (try simp only [List.map_toArray, List.map_cons, List.map_nil]); first | done | rfl | (simp only [List.length_drop, List.length_take]; rfl)) ?_
          with_reducible refine (cal_pad.calls kj4 a0_1 2 t370110 _ A19.out).mono ?_
          rintro e w30 ⟨rfl, hb⟩
          refine ⟨_, rfl, ?_⟩
          have n0_ := Aside0.mk (blk_below (g := gb370101) (o := .cells #[.int .i64 a0_0, .int .i64 a0_1, .int .i64 a0_2] 23 (0, 0)) (by (with_reducible repeat (first | refine blk_drewN ?_ _ | refine blk_drew ?_ | refine blk_alloc ?_ _)); exact BK370101.out) hb)
          have n1_ := Aside0.mk (blk_below (g := gb370106) (o := .cells #[.int .i64 t370102, .int .i64 t370103, .int .i64 t370104] 86 (0, 0)) (by (with_reducible repeat (first | refine blk_drewN ?_ _ | refine blk_drew ?_ | refine blk_alloc ?_ _)); exact BK370106.out) hb)
          have n2_ := Aside0.mk (below_step (by repeat (first | (with_reducible first | exact HB.out | apply below_alloc | apply pw_below_drewN | apply below_drew1 | refine below_set ?_ GE370101.out | refine below_set ?_ GE370106.out) | exact HB.out)) hb)
          clear BK370101
          clear BK370106
          clear HB
          have BK370101 := n0_
          have BK370106 := n1_
          have HB := n2_
          clear n0_ n1_ n2_
          (try clear hb)
          (try clear hb2)
          (try clear hk)
          (try clear hi)
          refine hK.out _ _ ⟨(blk_cell BK370101.out 0).trans rfl, (blk_cell BK370101.out 1).trans rfl, (blk_cell BK370101.out 2).trans rfl⟩ (fun hHeld => ?_)
          clear hK K
          refine norm_ (a' := ?_) ?_ ?_
          rotate_left
          ·show Act.put _ (some 41) _ = _
           simp only [Act.put, List.setIfInBounds_toArray, List.set_cons_zero, List.set_cons_succ, i64_w, i32_w]
           rfl
          refine pure_ (i := 5) (N := some 42) (v := ?_) (a' := ?_) #[true, true, true, true, true, true, false, true, true, false, false, false, false] rfl rfl (any_of HT_.out (by kernel_rfl)) (fun _ _ _ h => h) (Or.inl ⟨by rfl, ?_⟩) ?_ ?_
          rotate_left
          ·intro w'
           go_simp
           with_reducible rfl
          rotate_left
          ·simp only [Act.put, List.setIfInBounds_toArray, List.set_cons_zero, List.set_cons_succ, i64_w, i32_w]
           rfl
          refine pure_ (i := 6) (N := some 43) (v := ?_) (a' := ?_) #[true, true, true, true, true, true, true, true, true, false, false, false, false] rfl rfl (any_of HT_.out (by kernel_rfl)) (fun _ _ _ h => h) (Or.inl ⟨by rfl, ?_⟩) ?_ ?_
          rotate_left
          ·intro w'
           go_simp
           with_reducible rfl
          rotate_left
          ·simp only [Act.put, List.setIfInBounds_toArray, List.set_cons_zero, List.set_cons_succ, i64_w, i32_w]
           rfl
          refine one_ (i := 9) (N := some 46) #[true, true, true, true, true, true, true, true, true, true, false, false, false] rfl rfl (one_of HT_.out (by kernel_rfl)) (by decide) (fun K hK => ?_)
          refine goes_ Tryd.func38 (by kernel_rfl) rfl #[.int .i64 a0_2, .int .i64 2] (by rfl) rfl rfl (by (try simp only [List.map_toArray, List.map_cons, List.map_nil]); first | done | rfl | (simp only [List.length_drop, List.length_take]; rfl)) ?_
          with_reducible refine (cal_pad.calls kj4 a0_2 2 t370111 _ A22.out).mono ?_
          rintro e w31 ⟨rfl, hb⟩
          refine ⟨_, rfl, ?_⟩
          have n0_ := Aside0.mk (blk_below (g := gb370101) (o := .cells #[.int .i64 a0_0, .int .i64 a0_1, .int .i64 a0_2] 23 (0, 0)) (by (with_reducible repeat (first | refine blk_drewN ?_ _ | refine blk_drew ?_ | refine blk_alloc ?_ _)); exact BK370101.out) hb)
          have n1_ := Aside0.mk (blk_below (g := gb370106) (o := .cells #[.int .i64 t370102, .int .i64 t370103, .int .i64 t370104] 86 (0, 0)) (by (with_reducible repeat (first | refine blk_drewN ?_ _ | refine blk_drew ?_ | refine blk_alloc ?_ _)); exact BK370106.out) hb)
          have n2_ := Aside0.mk (below_step (by repeat (first | (with_reducible first | exact HB.out | apply below_alloc | apply pw_below_drewN | apply below_drew1 | refine below_set ?_ GE370101.out | refine below_set ?_ GE370106.out) | exact HB.out)) hb)
          clear BK370101
          clear BK370106
          clear HB
          have BK370101 := n0_
          have BK370106 := n1_
          have HB := n2_
          clear n0_ n1_ n2_
          (try clear hb)
          (try clear hb2)
          (try clear hk)
          (try clear hi)
          refine hK.out _ _ ⟨(blk_cell BK370101.out 0).trans rfl, (blk_cell BK370101.out 1).trans rfl, (blk_cell BK370101.out 2).trans rfl⟩ (fun hHeld => ?_)
          clear hK K
          refine norm_ (a' := ?_) ?_ ?_
          rotate_left
          ·show Act.put _ (some 46) _ = _
           simp only [Act.put, List.setIfInBounds_toArray, List.set_cons_zero, List.set_cons_succ, i64_w, i32_w]
           rfl
          refine pure_ (i := 10) (N := some 47) (v := ?_) (a' := ?_) #[true, true, true, true, true, true, true, true, true, true, true, false, false] rfl rfl (any_of HT_.out (by kernel_rfl)) (fun _ _ _ h => h) (Or.inl ⟨by rfl, ?_⟩) ?_ ?_
          rotate_left
          ·intro w'
           go_simp
           with_reducible rfl
          rotate_left
          ·simp only [Act.put, List.setIfInBounds_toArray, List.set_cons_zero, List.set_cons_succ, i64_w, i32_w]
           rfl
          refine pure_ (i := 11) (N := some 4) (v := ?_) (a' := ?_) #[true, true, true, true, true, true, true, true, true, true, true, true, false] rfl rfl (any_of HT_.out (by kernel_rfl)) (fun _ _ _ h => h) (Or.inl ⟨by rfl, ?_⟩) ?_ ?_
          rotate_left
          ·intro w'
           go_simp
           with_reducible rfl
          rotate_left
          ·simp only [Act.put, List.setIfInBounds_toArray, List.set_cons_zero, List.set_cons_succ, i64_w, i32_w]
           rfl
          refine pure_ (i := 12) (N := some 5) (v := ?_) (a' := ?_) #[true, true, true, true, true, true, true, true, true, true, true, true, true] rfl rfl (any_of HT_.out (by kernel_rfl)) (fun _ _ _ h => h) (Or.inl ⟨by rfl, ?_⟩) ?_ ?_
          rotate_left
          ·intro w'
           go_simp
           with_reducible rfl
          rotate_left
          ·simp only [Act.put, List.setIfInBounds_toArray, List.set_cons_zero, List.set_cons_succ, i64_w, i32_w]
           rfl
          refine done_ (done_of HT_.out (by kernel_rfl)) ?_
          try go_wp2
          go_ret2
          exact ⟨by first | rfl | (simp [errW_none, errW_some] <;> rfl) | (simp [*, errW_none, errW_some] <;> rfl), by repeat (first | (with_reducible first | exact HB.out | apply below_alloc | apply pw_below_drewN | apply below_drew1 | refine below_set ?_ GE370101.out | refine below_set ?_ GE370106.out) | exact HB.out)⟩
         ·rw [if_neg c23] at H
          exact absurd H (by simp)
        ·rw [if_neg c21] at H
         exact absurd H (by simp)
       ·rw [if_neg c20] at H
        exact absurd H (by simp)
      ·rw [if_neg c18] at H
       exact absurd H (by simp)
     ·rw [if_neg c17] at H
      have c17b0 : (a1 == 0) = false := beq_eq_false_iff_ne.mpr c17
      have c17b1 : (a1 != 0) = true := bne_iff_ne.mpr c17
      by_cases c32 : a1 = 1
      ·rw [if_pos c32] at H
       have c32b0 : (a1 == 1) = true := beq_iff_eq.mpr c32
       have c32b1 : (a1 != 1) = false := bne_eq_false_iff_eq.mpr c32
       clear c32
       replace H := Option.bind_eq_some_iff.mp H
       obtain ⟨t370112, A330, H⟩ := H
       replace H : (if t370107.size + t370112.size ≤ 9223372036854775807 then ((cal_pad.f kj4 a0_2 2).bind fun t370113 => (if t370107.size + t370112.size + t370113.size ≤ 9223372036854775807 then (some ((t370107 ++ t370112) ++ t370113, 0)) else (none))) else (none)) = some (r1, r2) := H
       have A33 := Aside0.mk A330
       clear A330
       by_cases c34 : t370107.size + t370112.size ≤ 9223372036854775807
       ·rw [if_pos c34] at H
        have c34b0 := eq_true c34
        have c34b1 : decide (t370107.size + t370112.size ≤ 9223372036854775807) = true := decide_eq_true c34
        try have c34b2 : (9223372036854775807 < t370107.size + t370112.size) = False := eq_false (Nat.not_lt.2 c34)
        replace H := Option.bind_eq_some_iff.mp H
        obtain ⟨t370113, A350, H⟩ := H
        replace H : (if t370107.size + t370112.size + t370113.size ≤ 9223372036854775807 then (some ((t370107 ++ t370112) ++ t370113, 0)) else (none)) = some (r1, r2) := H
        have A35 := Aside0.mk A350
        clear A350
        by_cases c36 : t370107.size + t370112.size + t370113.size ≤ 9223372036854775807
        ·rw [if_pos c36] at H
         have c36b0 := eq_true c36
         have c36b1 : decide (t370107.size + t370112.size + t370113.size ≤ 9223372036854775807) = true := decide_eq_true c36
         try have c36b2 : (9223372036854775807 < t370107.size + t370112.size + t370113.size) = False := eq_false (Nat.not_lt.2 c36)
         simp only [Option.some.injEq, Prod.mk.injEq] at H
         obtain ⟨rfl, rfl⟩ := H
         have hnb37 := NB370101_370106.out
         have hnc37 := NB370106_370101.out
         have hcz38_0 : wc.cell? ⟨gb370101, 0, none⟩ = some (.int .i64 a0_0) := (blk_cell BK370101.out 0).trans rfl
         have hcz38_1 : wc.cell? ⟨gb370101, 1, none⟩ = some (.int .i64 a0_1) := (blk_cell BK370101.out 1).trans rfl
         have hcz38_2 : wc.cell? ⟨gb370101, 2, none⟩ = some (.int .i64 a0_2) := (blk_cell BK370101.out 2).trans rfl
         have hfz38_0 := blk_frozen BK370101.out 0
         have hfz38_1 := blk_frozen BK370101.out 1
         have hfz38_2 := blk_frozen BK370101.out 2
         try go_wp2_with (first | ((with_reducible refine gate_callee (f := 38) rfl ?_); refine goesL_ (some 26) rfl rfl Tryd.func38 (by kernel_rfl) rfl #[.int .i64 a0_0, .int .i64 4] rfl (by (try simp only [List.map_toArray, List.map_cons, List.map_nil]); first | done | rfl | (simp only [List.length_drop, List.length_take]; rfl)) ?_; (with_reducible refine (cal_pad.calls kj4 a0_0 4 t370107 _ A14.out).mono ?_); rintro e w39 ⟨rfl, hb⟩; refine ⟨_, rfl, ?_⟩; have n0_ := Aside0.mk (blk_below (g := gb370101) (o := .cells #[.int .i64 a0_0, .int .i64 a0_1, .int .i64 a0_2] 23 (0, 0)) (by (with_reducible repeat (first | refine blk_drewN ?_ _ | refine blk_drew ?_ | refine blk_alloc ?_ _)); exact BK370101.out) hb); have n1_ := Aside0.mk (blk_below (g := gb370106) (o := .cells #[.int .i64 t370102, .int .i64 t370103, .int .i64 t370104] 86 (0, 0)) (by (with_reducible repeat (first | refine blk_drewN ?_ _ | refine blk_drew ?_ | refine blk_alloc ?_ _)); exact BK370106.out) hb); have n2_ := Aside0.mk (below_step (by repeat (first | (with_reducible first | exact HB.out | apply below_alloc | apply pw_below_drewN | apply below_drew1 | refine below_set ?_ GE370101.out | refine below_set ?_ GE370106.out) | exact HB.out)) hb); clear BK370101; clear BK370106; clear HB; have BK370101 := n0_; have BK370106 := n1_; have HB := n2_; clear n0_ n1_ n2_; (try clear hb); (try clear hb2); (try clear hk); (try clear hi)))
         have n0_ := Aside0.mk (blk_drew BK370101.out)
         have n1_ := Aside0.mk (blk_drew BK370106.out)
         have n2_ := Aside0.mk (below_drew1 HB.out)
         clear BK370101
         clear BK370106
         clear HB
         have BK370101 := n0_
         have BK370106 := n1_
         have HB := n2_
         clear n0_ n1_ n2_
         refine start_ (n := 8) (S := fun w' => w'.cell? ⟨gb370101, 0, none⟩ = some (.int .i64 a0_0) ∧ w'.cell? ⟨gb370101, 1, none⟩ = some (.int .i64 a0_1) ∧ w'.cell? ⟨gb370101, 2, none⟩ = some (.int .i64 a0_2)) (ds := []) #[false, false, false, false, false, false, false, false] (by kernel_rfl) rfl rfl ⟨(blk_cell BK370101.out 0).trans rfl, (blk_cell BK370101.out 1).trans rfl, (blk_cell BK370101.out 2).trans rfl⟩ (fun hHeld => ?_); refine with_tabW cal_PrintDate.tab7 cal_PrintDate.bits7 (fun HT_ HW_ => ?_)
         generalize w39.drew = w40 at BK370101 BK370106 HB hHeld ⊢
         refine pure_ (i := 2) (N := some 29) (v := ?_) (a' := ?_) #[false, false, true, false, false, false, false, false] rfl rfl (any_of HT_.out (by kernel_rfl)) (fun _ _ _ h => h) (Or.inl ⟨by rfl, ?_⟩) ?_ ?_
         rotate_left
         ·intro w'
          go_simp
          with_reducible rfl
         rotate_left
         ·simp only [Act.put, List.setIfInBounds_toArray, List.set_cons_zero, List.set_cons_succ, i64_w, i32_w]
          rfl
         refine take_ (i := 0) (N := some 27) (v := ?_) (a' := ?_) #[true, false, true, false, false, false, false, false] rfl rfl (take_ofW HT_.out HW_.out (by kernel_rfl)) (fun _ _ _ h => h) (Or.inl ⟨by rfl, ?_⟩) hHeld ?_ ?_
         rotate_left
         ·rintro w' ⟨s0, s1, s2⟩
          go_simp
          with_reducible rfl
         rotate_left
         ·simp only [Act.put, List.setIfInBounds_toArray, List.set_cons_zero, List.set_cons_succ, i64_w, i32_w]
          rfl
         refine take_ (i := 3) (N := some 30) (v := ?_) (a' := ?_) #[true, false, true, true, false, false, false, false] rfl rfl (take_ofW HT_.out HW_.out (by kernel_rfl)) (fun _ _ _ h => h) (Or.inl ⟨by rfl, ?_⟩) hHeld ?_ ?_
         rotate_left
         ·rintro w' ⟨s0, s1, s2⟩
          go_simp
          with_reducible rfl
         rotate_left
         ·simp only [Act.put, List.setIfInBounds_toArray, List.set_cons_zero, List.set_cons_succ, i64_w, i32_w]
          rfl
         refine one_ (i := 1) (N := some 28) #[true, true, true, true, false, false, false, false] rfl rfl (one_of HT_.out (by kernel_rfl)) (by decide) (fun K hK => ?_)
         refine goes_ Tryd.func34 (by kernel_rfl) rfl #[.agg #[.int .i64 a0_0, .int .i64 a0_1, .int .i64 a0_2]] (by rfl) rfl rfl (by (try simp only [List.map_toArray, List.map_cons, List.map_nil]); first | done | rfl | (simp only [List.length_drop, List.length_take]; rfl)) ?_
         with_reducible refine (cal_number.calls a0_0 a0_1 a0_2 t370108 _ ?side1 A15.out).mono ?_
         (case side1 => refine GlobOk.below HG.out ?_; repeat (first | (with_reducible first | exact HB.out | apply below_alloc | apply pw_below_drewN | apply below_drew1 | refine below_set ?_ GE370101.out | refine below_set ?_ GE370106.out) | exact HB.out))
         rintro e w41 ⟨rfl, hb⟩
         refine ⟨_, rfl, ?_⟩
         have n0_ := Aside0.mk (blk_below (g := gb370101) (o := .cells #[.int .i64 a0_0, .int .i64 a0_1, .int .i64 a0_2] 23 (0, 0)) (by (with_reducible repeat (first | refine blk_drewN ?_ _ | refine blk_drew ?_ | refine blk_alloc ?_ _)); exact BK370101.out) hb)
         have n1_ := Aside0.mk (blk_below (g := gb370106) (o := .cells #[.int .i64 t370102, .int .i64 t370103, .int .i64 t370104] 86 (0, 0)) (by (with_reducible repeat (first | refine blk_drewN ?_ _ | refine blk_drew ?_ | refine blk_alloc ?_ _)); exact BK370106.out) hb)
         have n2_ := Aside0.mk (below_step (by repeat (first | (with_reducible first | exact HB.out | apply below_alloc | apply pw_below_drewN | apply below_drew1 | refine below_set ?_ GE370101.out | refine below_set ?_ GE370106.out) | exact HB.out)) hb)
         clear BK370101
         clear BK370106
         clear HB
         have BK370101 := n0_
         have BK370106 := n1_
         have HB := n2_
         clear n0_ n1_ n2_
         (try clear hb)
         (try clear hb2)
         (try clear hk)
         (try clear hi)
         refine hK.out _ _ ⟨(blk_cell BK370101.out 0).trans rfl, (blk_cell BK370101.out 1).trans rfl, (blk_cell BK370101.out 2).trans rfl⟩ (fun hHeld => ?_)
         clear hK K
         refine norm_ (a' := ?_) ?_ ?_
         rotate_left
         ·show Act.put _ (some 28) _ = _
          simp only [Act.put, List.setIfInBounds_toArray, List.set_cons_zero, List.set_cons_succ, i64_w, i32_w]
          rfl
         refine one_ (i := 4) (N := some 31) #[true, true, true, true, true, false, false, false] rfl rfl (one_of HT_.out (by kernel_rfl)) (by decide) (fun K hK => ?_)
         refine goes_ Tryd.func71 (by kernel_rfl) rfl #[.int .i64 a0_0] (by rfl) rfl rfl (by (try simp only [List.map_toArray, List.map_cons, List.map_nil]); first | done | rfl | (simp only [List.length_drop, List.length_take]; rfl)) ?_
         with_reducible refine (cal_begin.calls a0_0 t370109 _ A16.out).mono ?_
         rintro e w' ⟨rfl, ⟨nd, rfl⟩⟩
         refine ⟨_, rfl, ?_⟩
         refine hK.out _ _ ⟨(blk_cell BK370101.out 0).trans rfl, (blk_cell BK370101.out 1).trans rfl, (blk_cell BK370101.out 2).trans rfl⟩ (fun hHeld => ?_)
         clear hK K
         refine norm_ (a' := ?_) ?_ ?_
         rotate_left
         ·show Act.put _ (some 31) _ = _
          simp only [Act.put, List.setIfInBounds_toArray, List.set_cons_zero, List.set_cons_succ, i64_w, i32_w]
          rfl
         refine pure_ (i := 5) (N := some 32) (v := ?_) (a' := ?_) #[true, true, true, true, true, true, false, false] rfl rfl (any_of HT_.out (by kernel_rfl)) (fun _ _ _ h => h) (Or.inl ⟨by rfl, ?_⟩) ?_ ?_
         rotate_left
         ·intro w'
          go_simp
          with_reducible rfl
         rotate_left
         ·simp only [Act.put, List.setIfInBounds_toArray, List.set_cons_zero, List.set_cons_succ, i64_w, i32_w]
          rfl
         refine pure_ (i := 6) (N := some 33) (v := ?_) (a' := ?_) #[true, true, true, true, true, true, true, false] rfl rfl (any_of HT_.out (by kernel_rfl)) (fun _ _ _ h => h) (Or.inl ⟨by rfl, ?_⟩) ?_ ?_
         rotate_left
         ·intro w'
          go_simp
          with_reducible rfl
         rotate_left
         ·simp only [Act.put, List.setIfInBounds_toArray, List.set_cons_zero, List.set_cons_succ, i64_w, i32_w]
          rfl
         refine pure_ (i := 7) (N := some 9) (v := ?_) (a' := ?_) #[true, true, true, true, true, true, true, true] rfl rfl (any_of HT_.out (by kernel_rfl)) (fun _ _ _ h => h) (Or.inl ⟨by rfl, ?_⟩) ?_ ?_
         rotate_left
         ·intro w'
          go_simp
          with_reducible rfl
         rotate_left
         ·simp only [Act.put, List.setIfInBounds_toArray, List.set_cons_zero, List.set_cons_succ, i64_w, i32_w]
          rfl
         refine done_ (done_of HT_.out (by kernel_rfl)) ?_
         try go_wp2
         (try (rw [drewN_self w41]; generalize hq_ : World.drewN w41 _ = w41; have n0_ : Aside0 (w41.heap[gb370101]? = some (.cells #[.int .i64 a0_0, .int .i64 a0_1, .int .i64 a0_2] 23 (0, 0))) := ⟨by rw [← hq_]; exact (by (with_reducible repeat (first | refine blk_drewN ?_ _ | refine blk_drew ?_ | refine blk_alloc ?_ _)); exact BK370101.out)⟩; have n1_ : Aside0 (w41.heap[gb370106]? = some (.cells #[.int .i64 t370102, .int .i64 t370103, .int .i64 t370104] 86 (0, 0))) := ⟨by rw [← hq_]; exact (by (with_reducible repeat (first | refine blk_drewN ?_ _ | refine blk_drew ?_ | refine blk_alloc ?_ _)); exact BK370106.out)⟩; have n2_ : Aside0 (Below w.heap.size w w41) := ⟨by rw [← hq_]; exact (by repeat (first | (with_reducible first | exact HB.out | apply below_alloc | apply pw_below_drewN | apply below_drew1 | refine below_set ?_ GE370101.out | refine below_set ?_ GE370106.out) | exact HB.out))⟩; clear BK370101 BK370106 HB hq_; have BK370101 := n0_; have BK370106 := n1_; have HB := n2_; clear n0_ n1_ n2_))
         have n0_ := Aside0.mk (blk_drew BK370101.out)
         have n1_ := Aside0.mk (blk_drew BK370106.out)
         have n2_ := Aside0.mk (below_drew1 HB.out)
         clear BK370101
         clear BK370106
         clear HB
         have BK370101 := n0_
         have BK370106 := n1_
         have HB := n2_
         clear n0_ n1_ n2_
         refine start_ (n := 11) (S := fun w' => w'.cell? ⟨gb370101, 0, none⟩ = some (.int .i64 a0_0) ∧ w'.cell? ⟨gb370101, 1, none⟩ = some (.int .i64 a0_1) ∧ w'.cell? ⟨gb370101, 2, none⟩ = some (.int .i64 a0_2)) (ds := []) #[false, false, false, false, false, false, false, false, false, false, false] (by kernel_rfl) rfl rfl ⟨(blk_cell BK370101.out 0).trans rfl, (blk_cell BK370101.out 1).trans rfl, (blk_cell BK370101.out 2).trans rfl⟩ (fun hHeld => ?_); refine with_tabW cal_PrintDate.tab12 cal_PrintDate.bits12 (fun HT_ HW_ => ?_)
         generalize w41.drew = w42 at BK370101 BK370106 HB hHeld ⊢
         refine pure_ (i := 0) (N := some 50) (v := ?_) (a' := ?_) #[true, false, false, false, false, false, false, false, false, false, false] rfl rfl (any_of HT_.out (by kernel_rfl)) (fun _ _ _ h => h) (Or.inl ⟨by rfl, ?_⟩) ?_ ?_
         rotate_left
         ·intro w'
          go_simp
          with_reducible rfl
         rotate_left
         ·simp only [Act.put, List.setIfInBounds_toArray, List.set_cons_zero, List.set_cons_succ, i64_w, i32_w]
          rfl
         refine pure_ (i := 1) (N := some 51) (v := ?_) (a' := ?_) #[true, true, false, false, false, false, false, false, false, false, false] rfl rfl (any_of HT_.out (by kernel_rfl)) (fun _ _ _ h => h) (Or.inl ⟨by rfl, ?_⟩) ?_ ?_
         rotate_left
         ·intro w'
          go_simp
          with_reducible rfl
         rotate_left
         ·simp only [Act.put, List.setIfInBounds_toArray, List.set_cons_zero, List.set_cons_succ, i64_w, i32_w]
          rfl
         refine pure_ (i := 5) (N := some 55) (v := ?_) (a' := ?_) #[true, true, false, false, false, true, false, false, false, false, false] rfl rfl (any_of HT_.out (by kernel_rfl)) (fun _ _ _ h => h) (Or.inl ⟨by rfl, ?_⟩) ?_ ?_
         rotate_left
         ·intro w'
          go_simp
          with_reducible rfl
         rotate_left
         ·simp only [Act.put, List.setIfInBounds_toArray, List.set_cons_zero, List.set_cons_succ, i64_w, i32_w]
          rfl
         refine take_ (i := 2) (N := some 52) (v := ?_) (a' := ?_) #[true, true, true, false, false, true, false, false, false, false, false] rfl rfl (take_ofW HT_.out HW_.out (by kernel_rfl)) (fun _ _ _ h => h) (Or.inl ⟨by rfl, ?_⟩) hHeld ?_ ?_
         rotate_left
         ·rintro w' ⟨s0, s1, s2⟩
          go_simp
          with_reducible rfl
         rotate_left
         ·simp only [Act.put, List.setIfInBounds_toArray, List.set_cons_zero, List.set_cons_succ, i64_w, i32_w]
          rfl
         refine take_ (i := 6) (N := some 56) (v := ?_) (a' := ?_) #[true, true, true, false, false, true, true, false, false, false, false] rfl rfl (take_ofW HT_.out HW_.out (by kernel_rfl)) (fun _ _ _ h => h) (Or.inl ⟨by rfl, ?_⟩) hHeld ?_ ?_
         rotate_left
         ·rintro w' ⟨s0, s1, s2⟩
          go_simp
          with_reducible rfl
         rotate_left
         ·simp only [Act.put, List.setIfInBounds_toArray, List.set_cons_zero, List.set_cons_succ, i64_w, i32_w]
          rfl
         refine one_ (i := 3) (N := some 53) #[true, true, true, true, false, true, true, false, false, false, false] rfl rfl (one_of HT_.out (by kernel_rfl)) (by decide) (fun K hK => ?_)
         refine goes_ Tryd.func38 (by kernel_rfl) rfl #[.int .i64 a0_1, .int .i64 2] (by rfl) rfl rfl (by (try simp only [List.map_toArray, List.map_cons, List.map_nil]); first | done | rfl | (simp only [List.length_drop, List.length_take]; rfl)) ?_
         with_reducible refine (cal_pad.calls kj4 a0_1 2 t370112 _ A33.out).mono ?_
         rintro e w43 ⟨rfl, hb⟩
         refine ⟨_, rfl, ?_⟩
         have n0_ := Aside0.mk (blk_below (g := gb370101) (o := .cells #[.int .i64 a0_0, .int .i64 a0_1, .int .i64 a0_2] 23 (0, 0)) (by (with_reducible repeat (first | refine blk_drewN ?_ _ | refine blk_drew ?_ | refine blk_alloc ?_ _)); exact BK370101.out) hb)
         have n1_ := Aside0.mk (blk_below (g := gb370106) (o := .cells #[.int .i64 t370102, .int .i64 t370103, .int .i64 t370104] 86 (0, 0)) (by (with_reducible repeat (first | refine blk_drewN ?_ _ | refine blk_drew ?_ | refine blk_alloc ?_ _)); exact BK370106.out) hb)
         have n2_ := Aside0.mk (below_step (by repeat (first | (with_reducible first | exact HB.out | apply below_alloc | apply pw_below_drewN | apply below_drew1 | refine below_set ?_ GE370101.out | refine below_set ?_ GE370106.out) | exact HB.out)) hb)
         clear BK370101
         clear BK370106
         clear HB
         have BK370101 := n0_
         have BK370106 := n1_
         have HB := n2_
         clear n0_ n1_ n2_
         (try clear hb)
         (try clear hb2)
         (try clear hk)
         (try clear hi)
         refine hK.out _ _ ⟨(blk_cell BK370101.out 0).trans rfl, (blk_cell BK370101.out 1).trans rfl, (blk_cell BK370101.out 2).trans rfl⟩ (fun hHeld => ?_)
         clear hK K
         refine norm_ (a' := ?_) ?_ ?_
         rotate_left
         ·show Act.put _ (some 53) _ = _
          simp only [Act.put, List.setIfInBounds_toArray, List.set_cons_zero, List.set_cons_succ, i64_w, i32_w]
          rfl
         refine pure_ (i := 4) (N := some 54) (v := ?_) (a' := ?_) #[true, true, true, true, true, true, true, false, false, false, false] rfl rfl (any_of HT_.out (by kernel_rfl)) (fun _ _ _ h => h) (Or.inl ⟨by rfl, ?_⟩) ?_ ?_
         rotate_left
         ·intro w'
          go_simp
          with_reducible rfl
         rotate_left
         ·simp only [Act.put, List.setIfInBounds_toArray, List.set_cons_zero, List.set_cons_succ, i64_w, i32_w]
          rfl
         refine one_ (i := 7) (N := some 57) #[true, true, true, true, true, true, true, true, false, false, false] rfl rfl (one_of HT_.out (by kernel_rfl)) (by decide) (fun K hK => ?_)
         refine goes_ Tryd.func38 (by kernel_rfl) rfl #[.int .i64 a0_2, .int .i64 2] (by rfl) rfl rfl (by (try simp only [List.map_toArray, List.map_cons, List.map_nil]); first | done | rfl | (simp only [List.length_drop, List.length_take]; rfl)) ?_
         with_reducible refine (cal_pad.calls kj4 a0_2 2 t370113 _ A35.out).mono ?_
         rintro e w44 ⟨rfl, hb⟩
         refine ⟨_, rfl, ?_⟩
         have n0_ := Aside0.mk (blk_below (g := gb370101) (o := .cells #[.int .i64 a0_0, .int .i64 a0_1, .int .i64 a0_2] 23 (0, 0)) (by (with_reducible repeat (first | refine blk_drewN ?_ _ | refine blk_drew ?_ | refine blk_alloc ?_ _)); exact BK370101.out) hb)
         have n1_ := Aside0.mk (blk_below (g := gb370106) (o := .cells #[.int .i64 t370102, .int .i64 t370103, .int .i64 t370104] 86 (0, 0)) (by (with_reducible repeat (first | refine blk_drewN ?_ _ | refine blk_drew ?_ | refine blk_alloc ?_ _)); exact BK370106.out) hb)
         have n2_ := Aside0.mk (below_step (by repeat (first | (with_reducible first | exact HB.out | apply below_alloc | apply pw_below_drewN | apply below_drew1 | refine below_set ?_ GE370101.out | refine below_set ?_ GE370106.out) | exact HB.out)) hb)
         clear BK370101
         clear BK370106
         clear HB
         have BK370101 := n0_
         have BK370106 := n1_
         have HB := n2_
         clear n0_ n1_ n2_
         (try clear hb)
         (try clear hb2)
         (try clear hk)
         (try clear hi)
         refine hK.out _ _ ⟨(blk_cell BK370101.out 0).trans rfl, (blk_cell BK370101.out 1).trans rfl, (blk_cell BK370101.out 2).trans rfl⟩ (fun hHeld => ?_)
         clear hK K
         refine norm_ (a' := ?_) ?_ ?_
         rotate_left
         ·show Act.put _ (some 57) _ = _
          simp only [Act.put, List.setIfInBounds_toArray, List.set_cons_zero, List.set_cons_succ, i64_w, i32_w]
          rfl
         refine pure_ (i := 8) (N := some 58) (v := ?_) (a' := ?_) #[true, true, true, true, true, true, true, true, true, false, false] rfl rfl (any_of HT_.out (by kernel_rfl)) (fun _ _ _ h => h) (Or.inl ⟨by rfl, ?_⟩) ?_ ?_
         rotate_left
         ·intro w'
          go_simp
          with_reducible rfl
         rotate_left
         ·simp only [Act.put, List.setIfInBounds_toArray, List.set_cons_zero, List.set_cons_succ, i64_w, i32_w]
          rfl
         refine pure_ (i := 9) (N := some 4) (v := ?_) (a' := ?_) #[true, true, true, true, true, true, true, true, true, true, false] rfl rfl (any_of HT_.out (by kernel_rfl)) (fun _ _ _ h => h) (Or.inl ⟨by rfl, ?_⟩) ?_ ?_
         rotate_left
         ·intro w'
          go_simp
          with_reducible rfl
         rotate_left
         ·simp only [Act.put, List.setIfInBounds_toArray, List.set_cons_zero, List.set_cons_succ, i64_w, i32_w]
          rfl
         refine pure_ (i := 10) (N := some 5) (v := ?_) (a' := ?_) #[true, true, true, true, true, true, true, true, true, true, true] rfl rfl (any_of HT_.out (by kernel_rfl)) (fun _ _ _ h => h) (Or.inl ⟨by rfl, ?_⟩) ?_ ?_
         rotate_left
         ·intro w'
          go_simp
          with_reducible rfl
         rotate_left
         ·simp only [Act.put, List.setIfInBounds_toArray, List.set_cons_zero, List.set_cons_succ, i64_w, i32_w]
          rfl
         refine done_ (done_of HT_.out (by kernel_rfl)) ?_
         try go_wp2
         go_ret2
         exact ⟨by first | rfl | (simp [errW_none, errW_some] <;> rfl) | (simp [*, errW_none, errW_some] <;> rfl), by repeat (first | (with_reducible first | exact HB.out | apply below_alloc | apply pw_below_drewN | apply below_drew1 | refine below_set ?_ GE370101.out | refine below_set ?_ GE370106.out) | exact HB.out)⟩
        ·rw [if_neg c36] at H
         exact absurd H (by simp)
       ·rw [if_neg c34] at H
        exact absurd H (by simp)
      ·rw [if_neg c32] at H
       have c32b0 : (a1 == 1) = false := beq_eq_false_iff_ne.mpr c32
       have c32b1 : (a1 != 1) = true := bne_iff_ne.mpr c32
       by_cases c45 : a1 = 2
       ·rw [if_pos c45] at H
        have c45b0 : (a1 == 2) = true := beq_iff_eq.mpr c45
        have c45b1 : (a1 != 2) = false := bne_eq_false_iff_eq.mpr c45
        clear c45
        by_cases c46 : t370107.size + 1 ≤ 9223372036854775807
        ·rw [if_pos c46] at H
         have c46b0 := eq_true c46
         have c46b1 : decide (t370107.size + 1 ≤ 9223372036854775807) = true := decide_eq_true c46
         try have c46b2 : (9223372036854775807 < t370107.size + 1) = False := eq_false (Nat.not_lt.2 c46)
         replace H := Option.bind_eq_some_iff.mp H
         obtain ⟨t370114, A470, H⟩ := H
         replace H : (if t370107.size + 1 + t370114.size ≤ 9223372036854775807 then (some ((t370107 ++ (⟨#[45]⟩ : ByteArray)) ++ t370114, 0)) else (none)) = some (r1, r2) := H
         have A47 := Aside0.mk A470
         clear A470
         by_cases c48 : t370107.size + 1 + t370114.size ≤ 9223372036854775807
         ·rw [if_pos c48] at H
          have c48b0 := eq_true c48
          have c48b1 : decide (t370107.size + 1 + t370114.size ≤ 9223372036854775807) = true := decide_eq_true c48
          try have c48b2 : (9223372036854775807 < t370107.size + 1 + t370114.size) = False := eq_false (Nat.not_lt.2 c48)
          simp only [Option.some.injEq, Prod.mk.injEq] at H
          obtain ⟨rfl, rfl⟩ := H
          have hnb49 := NB370101_370106.out
          have hnc49 := NB370106_370101.out
          have hcz50_0 : wc.cell? ⟨gb370101, 0, none⟩ = some (.int .i64 a0_0) := (blk_cell BK370101.out 0).trans rfl
          have hcz50_1 : wc.cell? ⟨gb370101, 1, none⟩ = some (.int .i64 a0_1) := (blk_cell BK370101.out 1).trans rfl
          have hcz50_2 : wc.cell? ⟨gb370101, 2, none⟩ = some (.int .i64 a0_2) := (blk_cell BK370101.out 2).trans rfl
          have hfz50_0 := blk_frozen BK370101.out 0
          have hfz50_1 := blk_frozen BK370101.out 1
          have hfz50_2 := blk_frozen BK370101.out 2
          try go_wp2_with (first | ((with_reducible refine gate_callee (f := 38) rfl ?_); refine goesL_ (some 26) rfl rfl Tryd.func38 (by kernel_rfl) rfl #[.int .i64 a0_0, .int .i64 4] rfl (by (try simp only [List.map_toArray, List.map_cons, List.map_nil]); first | done | rfl | (simp only [List.length_drop, List.length_take]; rfl)) ?_; (with_reducible refine (cal_pad.calls kj4 a0_0 4 t370107 _ A14.out).mono ?_); rintro e w51 ⟨rfl, hb⟩; refine ⟨_, rfl, ?_⟩; have n0_ := Aside0.mk (blk_below (g := gb370101) (o := .cells #[.int .i64 a0_0, .int .i64 a0_1, .int .i64 a0_2] 23 (0, 0)) (by (with_reducible repeat (first | refine blk_drewN ?_ _ | refine blk_drew ?_ | refine blk_alloc ?_ _)); exact BK370101.out) hb); have n1_ := Aside0.mk (blk_below (g := gb370106) (o := .cells #[.int .i64 t370102, .int .i64 t370103, .int .i64 t370104] 86 (0, 0)) (by (with_reducible repeat (first | refine blk_drewN ?_ _ | refine blk_drew ?_ | refine blk_alloc ?_ _)); exact BK370106.out) hb); have n2_ := Aside0.mk (below_step (by repeat (first | (with_reducible first | exact HB.out | apply below_alloc | apply pw_below_drewN | apply below_drew1 | refine below_set ?_ GE370101.out | refine below_set ?_ GE370106.out) | exact HB.out)) hb); clear BK370101; clear BK370106; clear HB; have BK370101 := n0_; have BK370106 := n1_; have HB := n2_; clear n0_ n1_ n2_; (try clear hb); (try clear hb2); (try clear hk); (try clear hi)))
          have n0_ := Aside0.mk (blk_drew BK370101.out)
          have n1_ := Aside0.mk (blk_drew BK370106.out)
          have n2_ := Aside0.mk (below_drew1 HB.out)
          clear BK370101
          clear BK370106
          clear HB
          have BK370101 := n0_
          have BK370106 := n1_
          have HB := n2_
          clear n0_ n1_ n2_
          refine start_ (n := 8) (S := fun w' => w'.cell? ⟨gb370101, 0, none⟩ = some (.int .i64 a0_0) ∧ w'.cell? ⟨gb370101, 1, none⟩ = some (.int .i64 a0_1) ∧ w'.cell? ⟨gb370101, 2, none⟩ = some (.int .i64 a0_2)) (ds := []) #[false, false, false, false, false, false, false, false] (by kernel_rfl) rfl rfl ⟨(blk_cell BK370101.out 0).trans rfl, (blk_cell BK370101.out 1).trans rfl, (blk_cell BK370101.out 2).trans rfl⟩ (fun hHeld => ?_); refine with_tabW cal_PrintDate.tab7 cal_PrintDate.bits7 (fun HT_ HW_ => ?_)
          generalize w51.drew = w52 at BK370101 BK370106 HB hHeld ⊢
          refine pure_ (i := 2) (N := some 29) (v := ?_) (a' := ?_) #[false, false, true, false, false, false, false, false] rfl rfl (any_of HT_.out (by kernel_rfl)) (fun _ _ _ h => h) (Or.inl ⟨by rfl, ?_⟩) ?_ ?_
          rotate_left
          ·intro w'
           go_simp
           with_reducible rfl
          rotate_left
          ·simp only [Act.put, List.setIfInBounds_toArray, List.set_cons_zero, List.set_cons_succ, i64_w, i32_w]
           rfl
          refine take_ (i := 0) (N := some 27) (v := ?_) (a' := ?_) #[true, false, true, false, false, false, false, false] rfl rfl (take_ofW HT_.out HW_.out (by kernel_rfl)) (fun _ _ _ h => h) (Or.inl ⟨by rfl, ?_⟩) hHeld ?_ ?_
          rotate_left
          ·rintro w' ⟨s0, s1, s2⟩
           go_simp
           with_reducible rfl
          rotate_left
          ·simp only [Act.put, List.setIfInBounds_toArray, List.set_cons_zero, List.set_cons_succ, i64_w, i32_w]
           rfl
          refine take_ (i := 3) (N := some 30) (v := ?_) (a' := ?_) #[true, false, true, true, false, false, false, false] rfl rfl (take_ofW HT_.out HW_.out (by kernel_rfl)) (fun _ _ _ h => h) (Or.inl ⟨by rfl, ?_⟩) hHeld ?_ ?_
          rotate_left
          ·rintro w' ⟨s0, s1, s2⟩
           go_simp
           with_reducible rfl
          rotate_left
          ·simp only [Act.put, List.setIfInBounds_toArray, List.set_cons_zero, List.set_cons_succ, i64_w, i32_w]
           rfl
          refine one_ (i := 1) (N := some 28) #[true, true, true, true, false, false, false, false] rfl rfl (one_of HT_.out (by kernel_rfl)) (by decide) (fun K hK => ?_)
          refine goes_ Tryd.func34 (by kernel_rfl) rfl #[.agg #[.int .i64 a0_0, .int .i64 a0_1, .int .i64 a0_2]] (by rfl) rfl rfl (by (try simp only [List.map_toArray, List.map_cons, List.map_nil]); first | done | rfl | (simp only [List.length_drop, List.length_take]; rfl)) ?_
          with_reducible refine (cal_number.calls a0_0 a0_1 a0_2 t370108 _ ?side1 A15.out).mono ?_
          (case side1 => refine GlobOk.below HG.out ?_; repeat (first | (with_reducible first | exact HB.out | apply below_alloc | apply pw_below_drewN | apply below_drew1 | refine below_set ?_ GE370101.out | refine below_set ?_ GE370106.out) | exact HB.out))
          rintro e w53 ⟨rfl, hb⟩
          refine ⟨_, rfl, ?_⟩
          have n0_ := Aside0.mk (blk_below (g := gb370101) (o := .cells #[.int .i64 a0_0, .int .i64 a0_1, .int .i64 a0_2] 23 (0, 0)) (by (with_reducible repeat (first | refine blk_drewN ?_ _ | refine blk_drew ?_ | refine blk_alloc ?_ _)); exact BK370101.out) hb)
          have n1_ := Aside0.mk (blk_below (g := gb370106) (o := .cells #[.int .i64 t370102, .int .i64 t370103, .int .i64 t370104] 86 (0, 0)) (by (with_reducible repeat (first | refine blk_drewN ?_ _ | refine blk_drew ?_ | refine blk_alloc ?_ _)); exact BK370106.out) hb)
          have n2_ := Aside0.mk (below_step (by repeat (first | (with_reducible first | exact HB.out | apply below_alloc | apply pw_below_drewN | apply below_drew1 | refine below_set ?_ GE370101.out | refine below_set ?_ GE370106.out) | exact HB.out)) hb)
          clear BK370101
          clear BK370106
          clear HB
          have BK370101 := n0_
          have BK370106 := n1_
          have HB := n2_
          clear n0_ n1_ n2_
          (try clear hb)
          (try clear hb2)
          (try clear hk)
          (try clear hi)
          refine hK.out _ _ ⟨(blk_cell BK370101.out 0).trans rfl, (blk_cell BK370101.out 1).trans rfl, (blk_cell BK370101.out 2).trans rfl⟩ (fun hHeld => ?_)
          clear hK K
          refine norm_ (a' := ?_) ?_ ?_
          rotate_left
          ·show Act.put _ (some 28) _ = _
           simp only [Act.put, List.setIfInBounds_toArray, List.set_cons_zero, List.set_cons_succ, i64_w, i32_w]
           rfl
          refine one_ (i := 4) (N := some 31) #[true, true, true, true, true, false, false, false] rfl rfl (one_of HT_.out (by kernel_rfl)) (by decide) (fun K hK => ?_)
          refine goes_ Tryd.func71 (by kernel_rfl) rfl #[.int .i64 a0_0] (by rfl) rfl rfl (by (try simp only [List.map_toArray, List.map_cons, List.map_nil]); first | done | rfl | (simp only [List.length_drop, List.length_take]; rfl)) ?_
          with_reducible refine (cal_begin.calls a0_0 t370109 _ A16.out).mono ?_
          rintro e w' ⟨rfl, ⟨nd, rfl⟩⟩
          refine ⟨_, rfl, ?_⟩
          refine hK.out _ _ ⟨(blk_cell BK370101.out 0).trans rfl, (blk_cell BK370101.out 1).trans rfl, (blk_cell BK370101.out 2).trans rfl⟩ (fun hHeld => ?_)
          clear hK K
          refine norm_ (a' := ?_) ?_ ?_
          rotate_left
          ·show Act.put _ (some 31) _ = _
           simp only [Act.put, List.setIfInBounds_toArray, List.set_cons_zero, List.set_cons_succ, i64_w, i32_w]
           rfl
          refine pure_ (i := 5) (N := some 32) (v := ?_) (a' := ?_) #[true, true, true, true, true, true, false, false] rfl rfl (any_of HT_.out (by kernel_rfl)) (fun _ _ _ h => h) (Or.inl ⟨by rfl, ?_⟩) ?_ ?_
          rotate_left
          ·intro w'
           go_simp
           with_reducible rfl
          rotate_left
          ·simp only [Act.put, List.setIfInBounds_toArray, List.set_cons_zero, List.set_cons_succ, i64_w, i32_w]
           rfl
          refine pure_ (i := 6) (N := some 33) (v := ?_) (a' := ?_) #[true, true, true, true, true, true, true, false] rfl rfl (any_of HT_.out (by kernel_rfl)) (fun _ _ _ h => h) (Or.inl ⟨by rfl, ?_⟩) ?_ ?_
          rotate_left
          ·intro w'
           go_simp
           with_reducible rfl
          rotate_left
          ·simp only [Act.put, List.setIfInBounds_toArray, List.set_cons_zero, List.set_cons_succ, i64_w, i32_w]
           rfl
          refine pure_ (i := 7) (N := some 9) (v := ?_) (a' := ?_) #[true, true, true, true, true, true, true, true] rfl rfl (any_of HT_.out (by kernel_rfl)) (fun _ _ _ h => h) (Or.inl ⟨by rfl, ?_⟩) ?_ ?_
          rotate_left
          ·intro w'
           go_simp
           with_reducible rfl
          rotate_left
          ·simp only [Act.put, List.setIfInBounds_toArray, List.set_cons_zero, List.set_cons_succ, i64_w, i32_w]
           rfl
          refine done_ (done_of HT_.out (by kernel_rfl)) ?_
          try go_wp2_with (first | ((with_reducible refine gate_callee (f := 38) rfl ?_); refine goesL_ (some 64) rfl rfl Tryd.func38 (by kernel_rfl) rfl #[.int .i64 (wrap64 ((wrap64 (t370108 - t370109)) + 1)), .int .i64 3] rfl (by (try simp only [List.map_toArray, List.map_cons, List.map_nil]); first | done | rfl | (simp only [List.length_drop, List.length_take]; rfl)) ?_; (with_reducible refine (cal_pad.calls kj4 (wrap64 ((wrap64 (t370108 - t370109)) + 1)) 3 t370114 _ A47.out).mono ?_); rintro e w54 ⟨rfl, hb⟩; refine ⟨_, rfl, ?_⟩; have n0_ := Aside0.mk (blk_below (g := gb370101) (o := .cells #[.int .i64 a0_0, .int .i64 a0_1, .int .i64 a0_2] 23 (0, 0)) (by (with_reducible repeat (first | refine blk_drewN ?_ _ | refine blk_drew ?_ | refine blk_alloc ?_ _)); exact BK370101.out) hb); have n1_ := Aside0.mk (blk_below (g := gb370106) (o := .cells #[.int .i64 t370102, .int .i64 t370103, .int .i64 t370104] 86 (0, 0)) (by (with_reducible repeat (first | refine blk_drewN ?_ _ | refine blk_drew ?_ | refine blk_alloc ?_ _)); exact BK370106.out) hb); have n2_ := Aside0.mk (below_step (by repeat (first | (with_reducible first | exact HB.out | apply below_alloc | apply pw_below_drewN | apply below_drew1 | refine below_set ?_ GE370101.out | refine below_set ?_ GE370106.out) | exact HB.out)) hb); clear BK370101; clear BK370106; clear HB; have BK370101 := n0_; have BK370106 := n1_; have HB := n2_; clear n0_ n1_ n2_; (try clear hb); (try clear hb2); (try clear hk); (try clear hi)))
          go_ret2
          exact ⟨by first | rfl | (simp [errW_none, errW_some] <;> rfl) | (simp [*, errW_none, errW_some] <;> rfl), by repeat (first | (with_reducible first | exact HB.out | apply below_alloc | apply pw_below_drewN | apply below_drew1 | refine below_set ?_ GE370101.out | refine below_set ?_ GE370106.out) | exact HB.out)⟩
         ·rw [if_neg c48] at H
          exact absurd H (by simp)
        ·rw [if_neg c46] at H
         exact absurd H (by simp)
       ·rw [if_neg c45] at H
        have c45b0 : (a1 == 2) = false := beq_eq_false_iff_ne.mpr c45
        have c45b1 : (a1 != 2) = true := bne_iff_ne.mpr c45
        by_cases c55 : a1 = 3
        ·rw [if_pos c55] at H
         have c55b0 : (a1 == 3) = true := beq_iff_eq.mpr c55
         have c55b1 : (a1 != 3) = false := bne_eq_false_iff_eq.mpr c55
         clear c55
         replace H := Option.bind_eq_some_iff.mp H
         obtain ⟨t370115, A560, H⟩ := H
         replace H : (if t370107.size + t370115.size ≤ 9223372036854775807 then (some (t370107 ++ t370115, 0)) else (none)) = some (r1, r2) := H
         have A56 := Aside0.mk A560
         clear A560
         by_cases c57 : t370107.size + t370115.size ≤ 9223372036854775807
         ·rw [if_pos c57] at H
          have c57b0 := eq_true c57
          have c57b1 : decide (t370107.size + t370115.size ≤ 9223372036854775807) = true := decide_eq_true c57
          try have c57b2 : (9223372036854775807 < t370107.size + t370115.size) = False := eq_false (Nat.not_lt.2 c57)
          simp only [Option.some.injEq, Prod.mk.injEq] at H
          obtain ⟨rfl, rfl⟩ := H
          have hnb58 := NB370101_370106.out
          have hnc58 := NB370106_370101.out
          have hcz59_0 : wc.cell? ⟨gb370101, 0, none⟩ = some (.int .i64 a0_0) := (blk_cell BK370101.out 0).trans rfl
          have hcz59_1 : wc.cell? ⟨gb370101, 1, none⟩ = some (.int .i64 a0_1) := (blk_cell BK370101.out 1).trans rfl
          have hcz59_2 : wc.cell? ⟨gb370101, 2, none⟩ = some (.int .i64 a0_2) := (blk_cell BK370101.out 2).trans rfl
          have hfz59_0 := blk_frozen BK370101.out 0
          have hfz59_1 := blk_frozen BK370101.out 1
          have hfz59_2 := blk_frozen BK370101.out 2
          try go_wp2_with (first | ((with_reducible refine gate_callee (f := 38) rfl ?_); refine goesL_ (some 26) rfl rfl Tryd.func38 (by kernel_rfl) rfl #[.int .i64 a0_0, .int .i64 4] rfl (by (try simp only [List.map_toArray, List.map_cons, List.map_nil]); first | done | rfl | (simp only [List.length_drop, List.length_take]; rfl)) ?_; (with_reducible refine (cal_pad.calls kj4 a0_0 4 t370107 _ A14.out).mono ?_); rintro e w60 ⟨rfl, hb⟩; refine ⟨_, rfl, ?_⟩; have n0_ := Aside0.mk (blk_below (g := gb370101) (o := .cells #[.int .i64 a0_0, .int .i64 a0_1, .int .i64 a0_2] 23 (0, 0)) (by (with_reducible repeat (first | refine blk_drewN ?_ _ | refine blk_drew ?_ | refine blk_alloc ?_ _)); exact BK370101.out) hb); have n1_ := Aside0.mk (blk_below (g := gb370106) (o := .cells #[.int .i64 t370102, .int .i64 t370103, .int .i64 t370104] 86 (0, 0)) (by (with_reducible repeat (first | refine blk_drewN ?_ _ | refine blk_drew ?_ | refine blk_alloc ?_ _)); exact BK370106.out) hb); have n2_ := Aside0.mk (below_step (by repeat (first | (with_reducible first | exact HB.out | apply below_alloc | apply pw_below_drewN | apply below_drew1 | refine below_set ?_ GE370101.out | refine below_set ?_ GE370106.out) | exact HB.out)) hb); clear BK370101; clear BK370106; clear HB; have BK370101 := n0_; have BK370106 := n1_; have HB := n2_; clear n0_ n1_ n2_; (try clear hb); (try clear hb2); (try clear hk); (try clear hi)))
          have n0_ := Aside0.mk (blk_drew BK370101.out)
          have n1_ := Aside0.mk (blk_drew BK370106.out)
          have n2_ := Aside0.mk (below_drew1 HB.out)
          clear BK370101
          clear BK370106
          clear HB
          have BK370101 := n0_
          have BK370106 := n1_
          have HB := n2_
          clear n0_ n1_ n2_
          refine start_ (n := 8) (S := fun w' => w'.cell? ⟨gb370101, 0, none⟩ = some (.int .i64 a0_0) ∧ w'.cell? ⟨gb370101, 1, none⟩ = some (.int .i64 a0_1) ∧ w'.cell? ⟨gb370101, 2, none⟩ = some (.int .i64 a0_2)) (ds := []) #[false, false, false, false, false, false, false, false] (by kernel_rfl) rfl rfl ⟨(blk_cell BK370101.out 0).trans rfl, (blk_cell BK370101.out 1).trans rfl, (blk_cell BK370101.out 2).trans rfl⟩ (fun hHeld => ?_); refine with_tabW cal_PrintDate.tab7 cal_PrintDate.bits7 (fun HT_ HW_ => ?_)
          generalize w60.drew = w61 at BK370101 BK370106 HB hHeld ⊢
          refine pure_ (i := 2) (N := some 29) (v := ?_) (a' := ?_) #[false, false, true, false, false, false, false, false] rfl rfl (any_of HT_.out (by kernel_rfl)) (fun _ _ _ h => h) (Or.inl ⟨by rfl, ?_⟩) ?_ ?_
          rotate_left
          ·intro w'
           go_simp
           with_reducible rfl
          rotate_left
          ·simp only [Act.put, List.setIfInBounds_toArray, List.set_cons_zero, List.set_cons_succ, i64_w, i32_w]
           rfl
          refine take_ (i := 0) (N := some 27) (v := ?_) (a' := ?_) #[true, false, true, false, false, false, false, false] rfl rfl (take_ofW HT_.out HW_.out (by kernel_rfl)) (fun _ _ _ h => h) (Or.inl ⟨by rfl, ?_⟩) hHeld ?_ ?_
          rotate_left
          ·rintro w' ⟨s0, s1, s2⟩
           go_simp
           with_reducible rfl
          rotate_left
          ·simp only [Act.put, List.setIfInBounds_toArray, List.set_cons_zero, List.set_cons_succ, i64_w, i32_w]
           rfl
          refine take_ (i := 3) (N := some 30) (v := ?_) (a' := ?_) #[true, false, true, true, false, false, false, false] rfl rfl (take_ofW HT_.out HW_.out (by kernel_rfl)) (fun _ _ _ h => h) (Or.inl ⟨by rfl, ?_⟩) hHeld ?_ ?_
          rotate_left
          ·rintro w' ⟨s0, s1, s2⟩
           go_simp
           with_reducible rfl
          rotate_left
          ·simp only [Act.put, List.setIfInBounds_toArray, List.set_cons_zero, List.set_cons_succ, i64_w, i32_w]
           rfl
          refine one_ (i := 1) (N := some 28) #[true, true, true, true, false, false, false, false] rfl rfl (one_of HT_.out (by kernel_rfl)) (by decide) (fun K hK => ?_)
          refine goes_ Tryd.func34 (by kernel_rfl) rfl #[.agg #[.int .i64 a0_0, .int .i64 a0_1, .int .i64 a0_2]] (by rfl) rfl rfl (by (try simp only [List.map_toArray, List.map_cons, List.map_nil]); first | done | rfl | (simp only [List.length_drop, List.length_take]; rfl)) ?_
          with_reducible refine (cal_number.calls a0_0 a0_1 a0_2 t370108 _ ?side1 A15.out).mono ?_
          (case side1 => refine GlobOk.below HG.out ?_; repeat (first | (with_reducible first | exact HB.out | apply below_alloc | apply pw_below_drewN | apply below_drew1 | refine below_set ?_ GE370101.out | refine below_set ?_ GE370106.out) | exact HB.out))
          rintro e w62 ⟨rfl, hb⟩
          refine ⟨_, rfl, ?_⟩
          have n0_ := Aside0.mk (blk_below (g := gb370101) (o := .cells #[.int .i64 a0_0, .int .i64 a0_1, .int .i64 a0_2] 23 (0, 0)) (by (with_reducible repeat (first | refine blk_drewN ?_ _ | refine blk_drew ?_ | refine blk_alloc ?_ _)); exact BK370101.out) hb)
          have n1_ := Aside0.mk (blk_below (g := gb370106) (o := .cells #[.int .i64 t370102, .int .i64 t370103, .int .i64 t370104] 86 (0, 0)) (by (with_reducible repeat (first | refine blk_drewN ?_ _ | refine blk_drew ?_ | refine blk_alloc ?_ _)); exact BK370106.out) hb)
          have n2_ := Aside0.mk (below_step (by repeat (first | (with_reducible first | exact HB.out | apply below_alloc | apply pw_below_drewN | apply below_drew1 | refine below_set ?_ GE370101.out | refine below_set ?_ GE370106.out) | exact HB.out)) hb)
          clear BK370101
          clear BK370106
          clear HB
          have BK370101 := n0_
          have BK370106 := n1_
          have HB := n2_
          clear n0_ n1_ n2_
          (try clear hb)
          (try clear hb2)
          (try clear hk)
          (try clear hi)
          refine hK.out _ _ ⟨(blk_cell BK370101.out 0).trans rfl, (blk_cell BK370101.out 1).trans rfl, (blk_cell BK370101.out 2).trans rfl⟩ (fun hHeld => ?_)
          clear hK K
          refine norm_ (a' := ?_) ?_ ?_
          rotate_left
          ·show Act.put _ (some 28) _ = _
           simp only [Act.put, List.setIfInBounds_toArray, List.set_cons_zero, List.set_cons_succ, i64_w, i32_w]
           rfl
          refine one_ (i := 4) (N := some 31) #[true, true, true, true, true, false, false, false] rfl rfl (one_of HT_.out (by kernel_rfl)) (by decide) (fun K hK => ?_)
          refine goes_ Tryd.func71 (by kernel_rfl) rfl #[.int .i64 a0_0] (by rfl) rfl rfl (by (try simp only [List.map_toArray, List.map_cons, List.map_nil]); first | done | rfl | (simp only [List.length_drop, List.length_take]; rfl)) ?_
          with_reducible refine (cal_begin.calls a0_0 t370109 _ A16.out).mono ?_
          rintro e w' ⟨rfl, ⟨nd, rfl⟩⟩
          refine ⟨_, rfl, ?_⟩
          refine hK.out _ _ ⟨(blk_cell BK370101.out 0).trans rfl, (blk_cell BK370101.out 1).trans rfl, (blk_cell BK370101.out 2).trans rfl⟩ (fun hHeld => ?_)
          clear hK K
          refine norm_ (a' := ?_) ?_ ?_
          rotate_left
          ·show Act.put _ (some 31) _ = _
           simp only [Act.put, List.setIfInBounds_toArray, List.set_cons_zero, List.set_cons_succ, i64_w, i32_w]
           rfl
          refine pure_ (i := 5) (N := some 32) (v := ?_) (a' := ?_) #[true, true, true, true, true, true, false, false] rfl rfl (any_of HT_.out (by kernel_rfl)) (fun _ _ _ h => h) (Or.inl ⟨by rfl, ?_⟩) ?_ ?_
          rotate_left
          ·intro w'
           go_simp
           with_reducible rfl
          rotate_left
          ·simp only [Act.put, List.setIfInBounds_toArray, List.set_cons_zero, List.set_cons_succ, i64_w, i32_w]
           rfl
          refine pure_ (i := 6) (N := some 33) (v := ?_) (a' := ?_) #[true, true, true, true, true, true, true, false] rfl rfl (any_of HT_.out (by kernel_rfl)) (fun _ _ _ h => h) (Or.inl ⟨by rfl, ?_⟩) ?_ ?_
          rotate_left
          ·intro w'
           go_simp
           with_reducible rfl
          rotate_left
          ·simp only [Act.put, List.setIfInBounds_toArray, List.set_cons_zero, List.set_cons_succ, i64_w, i32_w]
           rfl
          refine pure_ (i := 7) (N := some 9) (v := ?_) (a' := ?_) #[true, true, true, true, true, true, true, true] rfl rfl (any_of HT_.out (by kernel_rfl)) (fun _ _ _ h => h) (Or.inl ⟨by rfl, ?_⟩) ?_ ?_
          rotate_left
          ·intro w'
           go_simp
           with_reducible rfl
          rotate_left
          ·simp only [Act.put, List.setIfInBounds_toArray, List.set_cons_zero, List.set_cons_succ, i64_w, i32_w]
           rfl
          refine done_ (done_of HT_.out (by kernel_rfl)) ?_
          try go_wp2_with (first | ((with_reducible refine gate_callee (f := 38) rfl ?_); refine goesL_ (some 70) rfl rfl Tryd.func38 (by kernel_rfl) rfl #[.int .i64 (wrap64 ((wrap64 (t370108 - t370109)) + 1)), .int .i64 3] rfl (by (try simp only [List.map_toArray, List.map_cons, List.map_nil]); first | done | rfl | (simp only [List.length_drop, List.length_take]; rfl)) ?_; (with_reducible refine (cal_pad.calls kj4 (wrap64 ((wrap64 (t370108 - t370109)) + 1)) 3 t370115 _ A56.out).mono ?_); rintro e w63 ⟨rfl, hb⟩; refine ⟨_, rfl, ?_⟩; have n0_ := Aside0.mk (blk_below (g := gb370101) (o := .cells #[.int .i64 a0_0, .int .i64 a0_1, .int .i64 a0_2] 23 (0, 0)) (by (with_reducible repeat (first | refine blk_drewN ?_ _ | refine blk_drew ?_ | refine blk_alloc ?_ _)); exact BK370101.out) hb); have n1_ := Aside0.mk (blk_below (g := gb370106) (o := .cells #[.int .i64 t370102, .int .i64 t370103, .int .i64 t370104] 86 (0, 0)) (by (with_reducible repeat (first | refine blk_drewN ?_ _ | refine blk_drew ?_ | refine blk_alloc ?_ _)); exact BK370106.out) hb); have n2_ := Aside0.mk (below_step (by repeat (first | (with_reducible first | exact HB.out | apply below_alloc | apply pw_below_drewN | apply below_drew1 | refine below_set ?_ GE370101.out | refine below_set ?_ GE370106.out) | exact HB.out)) hb); clear BK370101; clear BK370106; clear HB; have BK370101 := n0_; have BK370106 := n1_; have HB := n2_; clear n0_ n1_ n2_; (try clear hb); (try clear hb2); (try clear hk); (try clear hi)))
          go_ret2
          exact ⟨by first | rfl | (simp [errW_none, errW_some] <;> rfl) | (simp [*, errW_none, errW_some] <;> rfl), by repeat (first | (with_reducible first | exact HB.out | apply below_alloc | apply pw_below_drewN | apply below_drew1 | refine below_set ?_ GE370101.out | refine below_set ?_ GE370106.out) | exact HB.out)⟩
         ·rw [if_neg c57] at H
          exact absurd H (by simp)
        ·rw [if_neg c55] at H
         have c55b0 : (a1 == 3) = false := beq_eq_false_iff_ne.mpr c55
         have c55b1 : (a1 != 3) = true := bne_iff_ne.mpr c55
         by_cases c64 : t370102 < 0
         ·rw [if_pos c64] at H
          have c64b0 : decide (t370102 < 0) = true := decide_eq_true c64
          clear c64
          simp only [Option.some.injEq, Prod.mk.injEq] at H
          obtain ⟨rfl, rfl⟩ := H
          have hnb65 := NB370101_370106.out
          have hnc65 := NB370106_370101.out
          have hcz66_0 : wc.cell? ⟨gb370101, 0, none⟩ = some (.int .i64 a0_0) := (blk_cell BK370101.out 0).trans rfl
          have hcz66_1 : wc.cell? ⟨gb370101, 1, none⟩ = some (.int .i64 a0_1) := (blk_cell BK370101.out 1).trans rfl
          have hcz66_2 : wc.cell? ⟨gb370101, 2, none⟩ = some (.int .i64 a0_2) := (blk_cell BK370101.out 2).trans rfl
          have hfz66_0 := blk_frozen BK370101.out 0
          have hfz66_1 := blk_frozen BK370101.out 1
          have hfz66_2 := blk_frozen BK370101.out 2
          try go_wp2_with (first | ((with_reducible refine gate_callee (f := 38) rfl ?_); refine goesL_ (some 26) rfl rfl Tryd.func38 (by kernel_rfl) rfl #[.int .i64 a0_0, .int .i64 4] rfl (by (try simp only [List.map_toArray, List.map_cons, List.map_nil]); first | done | rfl | (simp only [List.length_drop, List.length_take]; rfl)) ?_; (with_reducible refine (cal_pad.calls kj4 a0_0 4 t370107 _ A14.out).mono ?_); rintro e w67 ⟨rfl, hb⟩; refine ⟨_, rfl, ?_⟩; have n0_ := Aside0.mk (blk_below (g := gb370101) (o := .cells #[.int .i64 a0_0, .int .i64 a0_1, .int .i64 a0_2] 23 (0, 0)) (by (with_reducible repeat (first | refine blk_drewN ?_ _ | refine blk_drew ?_ | refine blk_alloc ?_ _)); exact BK370101.out) hb); have n1_ := Aside0.mk (blk_below (g := gb370106) (o := .cells #[.int .i64 t370102, .int .i64 t370103, .int .i64 t370104] 86 (0, 0)) (by (with_reducible repeat (first | refine blk_drewN ?_ _ | refine blk_drew ?_ | refine blk_alloc ?_ _)); exact BK370106.out) hb); have n2_ := Aside0.mk (below_step (by repeat (first | (with_reducible first | exact HB.out | apply below_alloc | apply pw_below_drewN | apply below_drew1 | refine below_set ?_ GE370101.out | refine below_set ?_ GE370106.out) | exact HB.out)) hb); clear BK370101; clear BK370106; clear HB; have BK370101 := n0_; have BK370106 := n1_; have HB := n2_; clear n0_ n1_ n2_; (try clear hb); (try clear hb2); (try clear hk); (try clear hi)))
          have n0_ := Aside0.mk (blk_drew BK370101.out)
          have n1_ := Aside0.mk (blk_drew BK370106.out)
          have n2_ := Aside0.mk (below_drew1 HB.out)
          clear BK370101
          clear BK370106
          clear HB
          have BK370101 := n0_
          have BK370106 := n1_
          have HB := n2_
          clear n0_ n1_ n2_
          refine start_ (n := 8) (S := fun w' => w'.cell? ⟨gb370101, 0, none⟩ = some (.int .i64 a0_0) ∧ w'.cell? ⟨gb370101, 1, none⟩ = some (.int .i64 a0_1) ∧ w'.cell? ⟨gb370101, 2, none⟩ = some (.int .i64 a0_2)) (ds := []) #[false, false, false, false, false, false, false, false] (by kernel_rfl) rfl rfl ⟨(blk_cell BK370101.out 0).trans rfl, (blk_cell BK370101.out 1).trans rfl, (blk_cell BK370101.out 2).trans rfl⟩ (fun hHeld => ?_); refine with_tabW cal_PrintDate.tab7 cal_PrintDate.bits7 (fun HT_ HW_ => ?_)
          generalize w67.drew = w68 at BK370101 BK370106 HB hHeld ⊢
          refine pure_ (i := 2) (N := some 29) (v := ?_) (a' := ?_) #[false, false, true, false, false, false, false, false] rfl rfl (any_of HT_.out (by kernel_rfl)) (fun _ _ _ h => h) (Or.inl ⟨by rfl, ?_⟩) ?_ ?_
          rotate_left
          ·intro w'
           go_simp
           with_reducible rfl
          rotate_left
          ·simp only [Act.put, List.setIfInBounds_toArray, List.set_cons_zero, List.set_cons_succ, i64_w, i32_w]
           rfl
          refine take_ (i := 0) (N := some 27) (v := ?_) (a' := ?_) #[true, false, true, false, false, false, false, false] rfl rfl (take_ofW HT_.out HW_.out (by kernel_rfl)) (fun _ _ _ h => h) (Or.inl ⟨by rfl, ?_⟩) hHeld ?_ ?_
          rotate_left
          ·rintro w' ⟨s0, s1, s2⟩
           go_simp
           with_reducible rfl
          rotate_left
          ·simp only [Act.put, List.setIfInBounds_toArray, List.set_cons_zero, List.set_cons_succ, i64_w, i32_w]
           rfl
          refine take_ (i := 3) (N := some 30) (v := ?_) (a' := ?_) #[true, false, true, true, false, false, false, false] rfl rfl (take_ofW HT_.out HW_.out (by kernel_rfl)) (fun _ _ _ h => h) (Or.inl ⟨by rfl, ?_⟩) hHeld ?_ ?_
          rotate_left
          ·rintro w' ⟨s0, s1, s2⟩
           go_simp
           with_reducible rfl
          rotate_left
          ·simp only [Act.put, List.setIfInBounds_toArray, List.set_cons_zero, List.set_cons_succ, i64_w, i32_w]
           rfl
          refine one_ (i := 1) (N := some 28) #[true, true, true, true, false, false, false, false] rfl rfl (one_of HT_.out (by kernel_rfl)) (by decide) (fun K hK => ?_)
          refine goes_ Tryd.func34 (by kernel_rfl) rfl #[.agg #[.int .i64 a0_0, .int .i64 a0_1, .int .i64 a0_2]] (by rfl) rfl rfl (by (try simp only [List.map_toArray, List.map_cons, List.map_nil]); first | done | rfl | (simp only [List.length_drop, List.length_take]; rfl)) ?_
          with_reducible refine (cal_number.calls a0_0 a0_1 a0_2 t370108 _ ?side1 A15.out).mono ?_
          (case side1 => refine GlobOk.below HG.out ?_; repeat (first | (with_reducible first | exact HB.out | apply below_alloc | apply pw_below_drewN | apply below_drew1 | refine below_set ?_ GE370101.out | refine below_set ?_ GE370106.out) | exact HB.out))
          rintro e w69 ⟨rfl, hb⟩
          refine ⟨_, rfl, ?_⟩
          have n0_ := Aside0.mk (blk_below (g := gb370101) (o := .cells #[.int .i64 a0_0, .int .i64 a0_1, .int .i64 a0_2] 23 (0, 0)) (by (with_reducible repeat (first | refine blk_drewN ?_ _ | refine blk_drew ?_ | refine blk_alloc ?_ _)); exact BK370101.out) hb)
          have n1_ := Aside0.mk (blk_below (g := gb370106) (o := .cells #[.int .i64 t370102, .int .i64 t370103, .int .i64 t370104] 86 (0, 0)) (by (with_reducible repeat (first | refine blk_drewN ?_ _ | refine blk_drew ?_ | refine blk_alloc ?_ _)); exact BK370106.out) hb)
          have n2_ := Aside0.mk (below_step (by repeat (first | (with_reducible first | exact HB.out | apply below_alloc | apply pw_below_drewN | apply below_drew1 | refine below_set ?_ GE370101.out | refine below_set ?_ GE370106.out) | exact HB.out)) hb)
          clear BK370101
          clear BK370106
          clear HB
          have BK370101 := n0_
          have BK370106 := n1_
          have HB := n2_
          clear n0_ n1_ n2_
          (try clear hb)
          (try clear hb2)
          (try clear hk)
          (try clear hi)
          refine hK.out _ _ ⟨(blk_cell BK370101.out 0).trans rfl, (blk_cell BK370101.out 1).trans rfl, (blk_cell BK370101.out 2).trans rfl⟩ (fun hHeld => ?_)
          clear hK K
          refine norm_ (a' := ?_) ?_ ?_
          rotate_left
          ·show Act.put _ (some 28) _ = _
           simp only [Act.put, List.setIfInBounds_toArray, List.set_cons_zero, List.set_cons_succ, i64_w, i32_w]
           rfl
          refine one_ (i := 4) (N := some 31) #[true, true, true, true, true, false, false, false] rfl rfl (one_of HT_.out (by kernel_rfl)) (by decide) (fun K hK => ?_)
          refine goes_ Tryd.func71 (by kernel_rfl) rfl #[.int .i64 a0_0] (by rfl) rfl rfl (by (try simp only [List.map_toArray, List.map_cons, List.map_nil]); first | done | rfl | (simp only [List.length_drop, List.length_take]; rfl)) ?_
          with_reducible refine (cal_begin.calls a0_0 t370109 _ A16.out).mono ?_
          rintro e w' ⟨rfl, ⟨nd, rfl⟩⟩
          refine ⟨_, rfl, ?_⟩
          refine hK.out _ _ ⟨(blk_cell BK370101.out 0).trans rfl, (blk_cell BK370101.out 1).trans rfl, (blk_cell BK370101.out 2).trans rfl⟩ (fun hHeld => ?_)
          clear hK K
          refine norm_ (a' := ?_) ?_ ?_
          rotate_left
          ·show Act.put _ (some 31) _ = _
           simp only [Act.put, List.setIfInBounds_toArray, List.set_cons_zero, List.set_cons_succ, i64_w, i32_w]
           rfl
          refine pure_ (i := 5) (N := some 32) (v := ?_) (a' := ?_) #[true, true, true, true, true, true, false, false] rfl rfl (any_of HT_.out (by kernel_rfl)) (fun _ _ _ h => h) (Or.inl ⟨by rfl, ?_⟩) ?_ ?_
          rotate_left
          ·intro w'
           go_simp
           with_reducible rfl
          rotate_left
          ·simp only [Act.put, List.setIfInBounds_toArray, List.set_cons_zero, List.set_cons_succ, i64_w, i32_w]
           rfl
          refine pure_ (i := 6) (N := some 33) (v := ?_) (a' := ?_) #[true, true, true, true, true, true, true, false] rfl rfl (any_of HT_.out (by kernel_rfl)) (fun _ _ _ h => h) (Or.inl ⟨by rfl, ?_⟩) ?_ ?_
          rotate_left
          ·intro w'
           go_simp
           with_reducible rfl
          rotate_left
          ·simp only [Act.put, List.setIfInBounds_toArray, List.set_cons_zero, List.set_cons_succ, i64_w, i32_w]
           rfl
          refine pure_ (i := 7) (N := some 9) (v := ?_) (a' := ?_) #[true, true, true, true, true, true, true, true] rfl rfl (any_of HT_.out (by kernel_rfl)) (fun _ _ _ h => h) (Or.inl ⟨by rfl, ?_⟩) ?_ ?_
          rotate_left
          ·intro w'
           go_simp
           with_reducible rfl
          rotate_left
          ·simp only [Act.put, List.setIfInBounds_toArray, List.set_cons_zero, List.set_cons_succ, i64_w, i32_w]
           rfl
          refine done_ (done_of HT_.out (by kernel_rfl)) ?_
          have hcz70_0 : w69.cell? ⟨gb370106, 0, none⟩ = some (.int .i64 t370102) := (blk_cell BK370106.out 0).trans rfl
          have hcz70_1 : w69.cell? ⟨gb370106, 1, none⟩ = some (.int .i64 t370103) := (blk_cell BK370106.out 1).trans rfl
          have hcz70_2 : w69.cell? ⟨gb370106, 2, none⟩ = some (.int .i64 t370104) := (blk_cell BK370106.out 2).trans rfl
          have hfz70_0 := blk_frozen BK370106.out 0
          have hfz70_1 := blk_frozen BK370106.out 1
          have hfz70_2 := blk_frozen BK370106.out 2
          try go_wp2
          go_ret2
          exact ⟨by first | rfl | (simp [errW_none, errW_some] <;> rfl) | (simp [*, errW_none, errW_some] <;> rfl), by repeat (first | (with_reducible first | exact HB.out | apply below_alloc | apply pw_below_drewN | apply below_drew1 | refine below_set ?_ GE370101.out | refine below_set ?_ GE370106.out) | exact HB.out)⟩
         ·rw [if_neg c64] at H
          have c64b0 : decide (t370102 < 0) = false := decide_eq_false c64
          clear c64
          replace H := Option.bind_eq_some_iff.mp H
          obtain ⟨t370116, A710, H⟩ := H
          replace H : (if a1 = 4 then (if t370116.size + 2 ≤ 9223372036854775807 then ((cal_pad.f kj4 t370103 2).bind fun t370117 => (if t370116.size + 2 + t370117.size ≤ 9223372036854775807 then (if t370116.size + 2 + t370117.size + 1 ≤ 9223372036854775807 then ((cal_pad.f kj4 t370104 1).bind fun t370118 => (if t370116.size + 2 + t370117.size + 1 + t370118.size ≤ 9223372036854775807 then (some ((((t370116 ++ (⟨#[45, 87]⟩ : ByteArray)) ++ t370117) ++ (⟨#[45]⟩ : ByteArray)) ++ t370118, 0)) else (none))) else (none)) else (none))) else (none)) else (if t370116.size + 1 ≤ 9223372036854775807 then ((cal_pad.f kj4 t370103 2).bind fun t370119 => (if t370116.size + 1 + t370119.size ≤ 9223372036854775807 then ((cal_pad.f kj4 t370104 1).bind fun t370120 => (if t370116.size + 1 + t370119.size + t370120.size ≤ 9223372036854775807 then (some (((t370116 ++ (⟨#[87]⟩ : ByteArray)) ++ t370119) ++ t370120, 0)) else (none))) else (none))) else (none))) = some (r1, r2) := H
          have A71 := Aside0.mk A710
          clear A710
          by_cases c72 : a1 = 4
          ·rw [if_pos c72] at H
           have c72b0 : (a1 == 4) = true := beq_iff_eq.mpr c72
           have c72b1 : (a1 != 4) = false := bne_eq_false_iff_eq.mpr c72
           clear c72
           by_cases c73 : t370116.size + 2 ≤ 9223372036854775807
           ·rw [if_pos c73] at H
            have c73b0 := eq_true c73
            have c73b1 : decide (t370116.size + 2 ≤ 9223372036854775807) = true := decide_eq_true c73
            try have c73b2 : (9223372036854775807 < t370116.size + 2) = False := eq_false (Nat.not_lt.2 c73)
            replace H := Option.bind_eq_some_iff.mp H
            obtain ⟨t370117, A740, H⟩ := H
            replace H : (if t370116.size + 2 + t370117.size ≤ 9223372036854775807 then (if t370116.size + 2 + t370117.size + 1 ≤ 9223372036854775807 then ((cal_pad.f kj4 t370104 1).bind fun t370118 => (if t370116.size + 2 + t370117.size + 1 + t370118.size ≤ 9223372036854775807 then (some ((((t370116 ++ (⟨#[45, 87]⟩ : ByteArray)) ++ t370117) ++ (⟨#[45]⟩ : ByteArray)) ++ t370118, 0)) else (none))) else (none)) else (none)) = some (r1, r2) := H
            have A74 := Aside0.mk A740
            clear A740
            by_cases c75 : t370116.size + 2 + t370117.size ≤ 9223372036854775807
            ·rw [if_pos c75] at H
             have c75b0 := eq_true c75
             have c75b1 : decide (t370116.size + 2 + t370117.size ≤ 9223372036854775807) = true := decide_eq_true c75
             try have c75b2 : (9223372036854775807 < t370116.size + 2 + t370117.size) = False := eq_false (Nat.not_lt.2 c75)
             by_cases c76 : t370116.size + 2 + t370117.size + 1 ≤ 9223372036854775807
             ·rw [if_pos c76] at H
              have c76b0 := eq_true c76
              have c76b1 : decide (t370116.size + 2 + t370117.size + 1 ≤ 9223372036854775807) = true := decide_eq_true c76
              try have c76b2 : (9223372036854775807 < t370116.size + 2 + t370117.size + 1) = False := eq_false (Nat.not_lt.2 c76)
              replace H := Option.bind_eq_some_iff.mp H
              obtain ⟨t370118, A770, H⟩ := H
              replace H : (if t370116.size + 2 + t370117.size + 1 + t370118.size ≤ 9223372036854775807 then (some ((((t370116 ++ (⟨#[45, 87]⟩ : ByteArray)) ++ t370117) ++ (⟨#[45]⟩ : ByteArray)) ++ t370118, 0)) else (none)) = some (r1, r2) := H
              have A77 := Aside0.mk A770
              clear A770
              by_cases c78 : t370116.size + 2 + t370117.size + 1 + t370118.size ≤ 9223372036854775807
              ·rw [if_pos c78] at H
               have c78b0 := eq_true c78
               have c78b1 : decide (t370116.size + 2 + t370117.size + 1 + t370118.size ≤ 9223372036854775807) = true := decide_eq_true c78
               try have c78b2 : (9223372036854775807 < t370116.size + 2 + t370117.size + 1 + t370118.size) = False := eq_false (Nat.not_lt.2 c78)
               simp only [Option.some.injEq, Prod.mk.injEq] at H
               obtain ⟨rfl, rfl⟩ := H
               have hnb79 := NB370101_370106.out
               have hnc79 := NB370106_370101.out
               have hcz80_0 : wc.cell? ⟨gb370101, 0, none⟩ = some (.int .i64 a0_0) := (blk_cell BK370101.out 0).trans rfl
               have hcz80_1 : wc.cell? ⟨gb370101, 1, none⟩ = some (.int .i64 a0_1) := (blk_cell BK370101.out 1).trans rfl
               have hcz80_2 : wc.cell? ⟨gb370101, 2, none⟩ = some (.int .i64 a0_2) := (blk_cell BK370101.out 2).trans rfl
               have hfz80_0 := blk_frozen BK370101.out 0
               have hfz80_1 := blk_frozen BK370101.out 1
               have hfz80_2 := blk_frozen BK370101.out 2
               try go_wp2_with (first | ((with_reducible refine gate_callee (f := 38) rfl ?_); refine goesL_ (some 26) rfl rfl Tryd.func38 (by kernel_rfl) rfl #[.int .i64 a0_0, .int .i64 4] rfl (by (try simp only [List.map_toArray, List.map_cons, List.map_nil]); first | done | rfl | (simp only [List.length_drop, List.length_take]; rfl)) ?_; (with_reducible refine (cal_pad.calls kj4 a0_0 4 t370107 _ A14.out).mono ?_); rintro e w81 ⟨rfl, hb⟩; refine ⟨_, rfl, ?_⟩; have n0_ := Aside0.mk (blk_below (g := gb370101) (o := .cells #[.int .i64 a0_0, .int .i64 a0_1, .int .i64 a0_2] 23 (0, 0)) (by (with_reducible repeat (first | refine blk_drewN ?_ _ | refine blk_drew ?_ | refine blk_alloc ?_ _)); exact BK370101.out) hb); have n1_ := Aside0.mk (blk_below (g := gb370106) (o := .cells #[.int .i64 t370102, .int .i64 t370103, .int .i64 t370104] 86 (0, 0)) (by (with_reducible repeat (first | refine blk_drewN ?_ _ | refine blk_drew ?_ | refine blk_alloc ?_ _)); exact BK370106.out) hb); have n2_ := Aside0.mk (below_step (by repeat (first | (with_reducible first | exact HB.out | apply below_alloc | apply pw_below_drewN | apply below_drew1 | refine below_set ?_ GE370101.out | refine below_set ?_ GE370106.out) | exact HB.out)) hb); clear BK370101; clear BK370106; clear HB; have BK370101 := n0_; have BK370106 := n1_; have HB := n2_; clear n0_ n1_ n2_; (try clear hb); (try clear hb2); (try clear hk); (try clear hi)))
               have n0_ := Aside0.mk (blk_drew BK370101.out)
               have n1_ := Aside0.mk (blk_drew BK370106.out)
               have n2_ := Aside0.mk (below_drew1 HB.out)
               clear BK370101
               clear BK370106
               clear HB
               have BK370101 := n0_
               have BK370106 := n1_
               have HB := n2_
               clear n0_ n1_ n2_
               refine start_ (n := 8) (S := fun w' => w'.cell? ⟨gb370101, 0, none⟩ = some (.int .i64 a0_0) ∧ w'.cell? ⟨gb370101, 1, none⟩ = some (.int .i64 a0_1) ∧ w'.cell? ⟨gb370101, 2, none⟩ = some (.int .i64 a0_2)) (ds := []) #[false, false, false, false, false, false, false, false] (by kernel_rfl) rfl rfl ⟨(blk_cell BK370101.out 0).trans rfl, (blk_cell BK370101.out 1).trans rfl, (blk_cell BK370101.out 2).trans rfl⟩ (fun hHeld => ?_); refine with_tabW cal_PrintDate.tab7 cal_PrintDate.bits7 (fun HT_ HW_ => ?_)
               generalize w81.drew = w82 at BK370101 BK370106 HB hHeld ⊢
               refine pure_ (i := 2) (N := some 29) (v := ?_) (a' := ?_) #[false, false, true, false, false, false, false, false] rfl rfl (any_of HT_.out (by kernel_rfl)) (fun _ _ _ h => h) (Or.inl ⟨by rfl, ?_⟩) ?_ ?_
               rotate_left
               ·intro w'
                go_simp
                with_reducible rfl
               rotate_left
               ·simp only [Act.put, List.setIfInBounds_toArray, List.set_cons_zero, List.set_cons_succ, i64_w, i32_w]
                rfl
               refine take_ (i := 0) (N := some 27) (v := ?_) (a' := ?_) #[true, false, true, false, false, false, false, false] rfl rfl (take_ofW HT_.out HW_.out (by kernel_rfl)) (fun _ _ _ h => h) (Or.inl ⟨by rfl, ?_⟩) hHeld ?_ ?_
               rotate_left
               ·rintro w' ⟨s0, s1, s2⟩
                go_simp
                with_reducible rfl
               rotate_left
               ·simp only [Act.put, List.setIfInBounds_toArray, List.set_cons_zero, List.set_cons_succ, i64_w, i32_w]
                rfl
               refine take_ (i := 3) (N := some 30) (v := ?_) (a' := ?_) #[true, false, true, true, false, false, false, false] rfl rfl (take_ofW HT_.out HW_.out (by kernel_rfl)) (fun _ _ _ h => h) (Or.inl ⟨by rfl, ?_⟩) hHeld ?_ ?_
               rotate_left
               ·rintro w' ⟨s0, s1, s2⟩
                go_simp
                with_reducible rfl
               rotate_left
               ·simp only [Act.put, List.setIfInBounds_toArray, List.set_cons_zero, List.set_cons_succ, i64_w, i32_w]
                rfl
               refine one_ (i := 1) (N := some 28) #[true, true, true, true, false, false, false, false] rfl rfl (one_of HT_.out (by kernel_rfl)) (by decide) (fun K hK => ?_)
               refine goes_ Tryd.func34 (by kernel_rfl) rfl #[.agg #[.int .i64 a0_0, .int .i64 a0_1, .int .i64 a0_2]] (by rfl) rfl rfl (by (try simp only [List.map_toArray, List.map_cons, List.map_nil]); first | done | rfl | (simp only [List.length_drop, List.length_take]; rfl)) ?_
               with_reducible refine (cal_number.calls a0_0 a0_1 a0_2 t370108 _ ?side1 A15.out).mono ?_
               (case side1 => refine GlobOk.below HG.out ?_; repeat (first | (with_reducible first | exact HB.out | apply below_alloc | apply pw_below_drewN | apply below_drew1 | refine below_set ?_ GE370101.out | refine below_set ?_ GE370106.out) | exact HB.out))
               rintro e w83 ⟨rfl, hb⟩
               refine ⟨_, rfl, ?_⟩
               have n0_ := Aside0.mk (blk_below (g := gb370101) (o := .cells #[.int .i64 a0_0, .int .i64 a0_1, .int .i64 a0_2] 23 (0, 0)) (by (with_reducible repeat (first | refine blk_drewN ?_ _ | refine blk_drew ?_ | refine blk_alloc ?_ _)); exact BK370101.out) hb)
               have n1_ := Aside0.mk (blk_below (g := gb370106) (o := .cells #[.int .i64 t370102, .int .i64 t370103, .int .i64 t370104] 86 (0, 0)) (by (with_reducible repeat (first | refine blk_drewN ?_ _ | refine blk_drew ?_ | refine blk_alloc ?_ _)); exact BK370106.out) hb)
               have n2_ := Aside0.mk (below_step (by repeat (first | (with_reducible first | exact HB.out | apply below_alloc | apply pw_below_drewN | apply below_drew1 | refine below_set ?_ GE370101.out | refine below_set ?_ GE370106.out) | exact HB.out)) hb)
               clear BK370101
               clear BK370106
               clear HB
               have BK370101 := n0_
               have BK370106 := n1_
               have HB := n2_
               clear n0_ n1_ n2_
               (try clear hb)
               (try clear hb2)
               (try clear hk)
               (try clear hi)
               refine hK.out _ _ ⟨(blk_cell BK370101.out 0).trans rfl, (blk_cell BK370101.out 1).trans rfl, (blk_cell BK370101.out 2).trans rfl⟩ (fun hHeld => ?_)
               clear hK K
               refine norm_ (a' := ?_) ?_ ?_
               rotate_left
               ·show Act.put _ (some 28) _ = _
                simp only [Act.put, List.setIfInBounds_toArray, List.set_cons_zero, List.set_cons_succ, i64_w, i32_w]
                rfl
               refine one_ (i := 4) (N := some 31) #[true, true, true, true, true, false, false, false] rfl rfl (one_of HT_.out (by kernel_rfl)) (by decide) (fun K hK => ?_)
               refine goes_ Tryd.func71 (by kernel_rfl) rfl #[.int .i64 a0_0] (by rfl) rfl rfl (by (try simp only [List.map_toArray, List.map_cons, List.map_nil]); first | done | rfl | (simp only [List.length_drop, List.length_take]; rfl)) ?_
               with_reducible refine (cal_begin.calls a0_0 t370109 _ A16.out).mono ?_
               rintro e w' ⟨rfl, ⟨nd, rfl⟩⟩
               refine ⟨_, rfl, ?_⟩
               refine hK.out _ _ ⟨(blk_cell BK370101.out 0).trans rfl, (blk_cell BK370101.out 1).trans rfl, (blk_cell BK370101.out 2).trans rfl⟩ (fun hHeld => ?_)
               clear hK K
               refine norm_ (a' := ?_) ?_ ?_
               rotate_left
               ·show Act.put _ (some 31) _ = _
                simp only [Act.put, List.setIfInBounds_toArray, List.set_cons_zero, List.set_cons_succ, i64_w, i32_w]
                rfl
               refine pure_ (i := 5) (N := some 32) (v := ?_) (a' := ?_) #[true, true, true, true, true, true, false, false] rfl rfl (any_of HT_.out (by kernel_rfl)) (fun _ _ _ h => h) (Or.inl ⟨by rfl, ?_⟩) ?_ ?_
               rotate_left
               ·intro w'
                go_simp
                with_reducible rfl
               rotate_left
               ·simp only [Act.put, List.setIfInBounds_toArray, List.set_cons_zero, List.set_cons_succ, i64_w, i32_w]
                rfl
               refine pure_ (i := 6) (N := some 33) (v := ?_) (a' := ?_) #[true, true, true, true, true, true, true, false] rfl rfl (any_of HT_.out (by kernel_rfl)) (fun _ _ _ h => h) (Or.inl ⟨by rfl, ?_⟩) ?_ ?_
               rotate_left
               ·intro w'
                go_simp
                with_reducible rfl
               rotate_left
               ·simp only [Act.put, List.setIfInBounds_toArray, List.set_cons_zero, List.set_cons_succ, i64_w, i32_w]
                rfl
               refine pure_ (i := 7) (N := some 9) (v := ?_) (a' := ?_) #[true, true, true, true, true, true, true, true] rfl rfl (any_of HT_.out (by kernel_rfl)) (fun _ _ _ h => h) (Or.inl ⟨by rfl, ?_⟩) ?_ ?_
               rotate_left
               ·intro w'
                go_simp
                with_reducible rfl
               rotate_left
               ·simp only [Act.put, List.setIfInBounds_toArray, List.set_cons_zero, List.set_cons_succ, i64_w, i32_w]
                rfl
               refine done_ (done_of HT_.out (by kernel_rfl)) ?_
               have hcz84_0 : w83.cell? ⟨gb370106, 0, none⟩ = some (.int .i64 t370102) := (blk_cell BK370106.out 0).trans rfl
               have hcz84_1 : w83.cell? ⟨gb370106, 1, none⟩ = some (.int .i64 t370103) := (blk_cell BK370106.out 1).trans rfl
               have hcz84_2 : w83.cell? ⟨gb370106, 2, none⟩ = some (.int .i64 t370104) := (blk_cell BK370106.out 2).trans rfl
               have hfz84_0 := blk_frozen BK370106.out 0
               have hfz84_1 := blk_frozen BK370106.out 1
               have hfz84_2 := blk_frozen BK370106.out 2
               try go_wp2_with (first | ((with_reducible refine gate_callee (f := 38) rfl ?_); refine goesL_ (some 77) rfl rfl Tryd.func38 (by kernel_rfl) rfl #[.int .i64 t370102, .int .i64 4] rfl (by (try simp only [List.map_toArray, List.map_cons, List.map_nil]); first | done | rfl | (simp only [List.length_drop, List.length_take]; rfl)) ?_; (with_reducible refine (cal_pad.calls kj4 t370102 4 t370116 _ A71.out).mono ?_); rintro e w85 ⟨rfl, hb⟩; refine ⟨_, rfl, ?_⟩; have n0_ := Aside0.mk (blk_below (g := gb370101) (o := .cells #[.int .i64 a0_0, .int .i64 a0_1, .int .i64 a0_2] 23 (0, 0)) (by (with_reducible repeat (first | refine blk_drewN ?_ _ | refine blk_drew ?_ | refine blk_alloc ?_ _)); exact BK370101.out) hb); have n1_ := Aside0.mk (blk_below (g := gb370106) (o := .cells #[.int .i64 t370102, .int .i64 t370103, .int .i64 t370104] 86 (0, 0)) (by (with_reducible repeat (first | refine blk_drewN ?_ _ | refine blk_drew ?_ | refine blk_alloc ?_ _)); exact BK370106.out) hb); have n2_ := Aside0.mk (below_step (by repeat (first | (with_reducible first | exact HB.out | apply below_alloc | apply pw_below_drewN | apply below_drew1 | refine below_set ?_ GE370101.out | refine below_set ?_ GE370106.out) | exact HB.out)) hb); clear BK370101; clear BK370106; clear HB; have BK370101 := n0_; have BK370106 := n1_; have HB := n2_; clear n0_ n1_ n2_; (try clear hb); (try clear hb2); (try clear hk); (try clear hi)))
               have n0_ := Aside0.mk (blk_drew BK370101.out)
               have n1_ := Aside0.mk (blk_drew BK370106.out)
               have n2_ := Aside0.mk (below_drew1 HB.out)
               clear BK370101
               clear BK370106
               clear HB
               have BK370101 := n0_
               have BK370106 := n1_
               have HB := n2_
               clear n0_ n1_ n2_
               refine start_ (n := 13) (S := fun w' => w'.cell? ⟨gb370106, 0, none⟩ = some (.int .i64 t370102) ∧ w'.cell? ⟨gb370106, 1, none⟩ = some (.int .i64 t370103) ∧ w'.cell? ⟨gb370106, 2, none⟩ = some (.int .i64 t370104)) (ds := []) #[false, false, false, false, false, false, false, false, false, false, false, false, false] (by kernel_rfl) rfl rfl ⟨(blk_cell BK370106.out 0).trans rfl, (blk_cell BK370106.out 1).trans rfl, (blk_cell BK370106.out 2).trans rfl⟩ (fun hHeld => ?_); refine with_tabW cal_PrintDate.tab21 cal_PrintDate.bits21 (fun HT_ HW_ => ?_)
               generalize w85.drew = w86 at BK370101 BK370106 HB hHeld ⊢
               refine pure_ (i := 0) (N := some 80) (v := ?_) (a' := ?_) #[true, false, false, false, false, false, false, false, false, false, false, false, false] rfl rfl (any_of HT_.out (by kernel_rfl)) (fun _ _ _ h => h) (Or.inl ⟨by rfl, ?_⟩) ?_ ?_
               rotate_left
               ·intro w'
                go_simp
                with_reducible rfl
               rotate_left
               ·simp only [Act.put, List.setIfInBounds_toArray, List.set_cons_zero, List.set_cons_succ, i64_w, i32_w]
                rfl
               refine pure_ (i := 1) (N := some 81) (v := ?_) (a' := ?_) #[true, true, false, false, false, false, false, false, false, false, false, false, false] rfl rfl (any_of HT_.out (by kernel_rfl)) (fun _ _ _ h => h) (Or.inl ⟨by rfl, ?_⟩) ?_ ?_
               rotate_left
               ·intro w'
                go_simp
                with_reducible rfl
               rotate_left
               ·simp only [Act.put, List.setIfInBounds_toArray, List.set_cons_zero, List.set_cons_succ, i64_w, i32_w]
                rfl
               refine pure_ (i := 2) (N := some 82) (v := ?_) (a' := ?_) #[true, true, true, false, false, false, false, false, false, false, false, false, false] rfl rfl (any_of HT_.out (by kernel_rfl)) (fun _ _ _ h => h) (Or.inl ⟨by rfl, ?_⟩) ?_ ?_
               rotate_left
               ·intro w'
                go_simp
                with_reducible rfl
               rotate_left
               ·simp only [Act.put, List.setIfInBounds_toArray, List.set_cons_zero, List.set_cons_succ, i64_w, i32_w]
                rfl
               refine pure_ (i := 7) (N := some 87) (v := ?_) (a' := ?_) #[true, true, true, false, false, false, false, true, false, false, false, false, false] rfl rfl (any_of HT_.out (by kernel_rfl)) (fun _ _ _ h => h) (Or.inl ⟨by rfl, ?_⟩) ?_ ?_
               rotate_left
               ·intro w'
                go_simp
                with_reducible rfl
               rotate_left
               ·simp only [Act.put, List.setIfInBounds_toArray, List.set_cons_zero, List.set_cons_succ, i64_w, i32_w]
                rfl
               refine take_ (i := 3) (N := some 83) (v := ?_) (a' := ?_) #[true, true, true, true, false, false, false, true, false, false, false, false, false] rfl rfl (take_ofW HT_.out HW_.out (by kernel_rfl)) (fun _ _ _ h => h) (Or.inl ⟨by rfl, ?_⟩) hHeld ?_ ?_
               rotate_left
               ·rintro w' ⟨s0, s1, s2⟩
                go_simp
                with_reducible rfl
               rotate_left
               ·simp only [Act.put, List.setIfInBounds_toArray, List.set_cons_zero, List.set_cons_succ, i64_w, i32_w]
                rfl
               refine take_ (i := 8) (N := some 88) (v := ?_) (a' := ?_) #[true, true, true, true, false, false, false, true, true, false, false, false, false] rfl rfl (take_ofW HT_.out HW_.out (by kernel_rfl)) (fun _ _ _ h => h) (Or.inl ⟨by rfl, ?_⟩) hHeld ?_ ?_
               rotate_left
               ·rintro w' ⟨s0, s1, s2⟩
                go_simp
                with_reducible rfl
               rotate_left
               ·simp only [Act.put, List.setIfInBounds_toArray, List.set_cons_zero, List.set_cons_succ, i64_w, i32_w]
                rfl
               refine one_ (i := 4) (N := some 84) #[true, true, true, true, true, false, false, true, true, false, false, false, false] rfl rfl (one_of HT_.out (by kernel_rfl)) (by decide) (fun K hK => ?_)
               refine goes_ Tryd.func38 (by kernel_rfl) rfl #[.int .i64 t370103, .int .i64 2] (by rfl) rfl rfl (by (try simp only [List.map_toArray, List.map_cons, List.map_nil]); first | done | rfl | (simp only [List.length_drop, List.length_take]; rfl)) ?_
               with_reducible refine (cal_pad.calls kj4 t370103 2 t370117 _ A74.out).mono ?_
               rintro e w87 ⟨rfl, hb⟩
               refine ⟨_, rfl, ?_⟩
               have n0_ := Aside0.mk (blk_below (g := gb370101) (o := .cells #[.int .i64 a0_0, .int .i64 a0_1, .int .i64 a0_2] 23 (0, 0)) (by (with_reducible repeat (first | refine blk_drewN ?_ _ | refine blk_drew ?_ | refine blk_alloc ?_ _)); exact BK370101.out) hb)
               have n1_ := Aside0.mk (blk_below (g := gb370106) (o := .cells #[.int .i64 t370102, .int .i64 t370103, .int .i64 t370104] 86 (0, 0)) (by (with_reducible repeat (first | refine blk_drewN ?_ _ | refine blk_drew ?_ | refine blk_alloc ?_ _)); exact BK370106.out) hb)
               have n2_ := Aside0.mk (below_step (by repeat (first | (with_reducible first | exact HB.out | apply below_alloc | apply pw_below_drewN | apply below_drew1 | refine below_set ?_ GE370101.out | refine below_set ?_ GE370106.out) | exact HB.out)) hb)
               clear BK370101
               clear BK370106
               clear HB
               have BK370101 := n0_
               have BK370106 := n1_
               have HB := n2_
               clear n0_ n1_ n2_
               (try clear hb)
               (try clear hb2)
               (try clear hk)
               (try clear hi)
               refine hK.out _ _ ⟨(blk_cell BK370106.out 0).trans rfl, (blk_cell BK370106.out 1).trans rfl, (blk_cell BK370106.out 2).trans rfl⟩ (fun hHeld => ?_)
               clear hK K
               refine norm_ (a' := ?_) ?_ ?_
               rotate_left
               ·show Act.put _ (some 84) _ = _
                simp only [Act.put, List.setIfInBounds_toArray, List.set_cons_zero, List.set_cons_succ, i64_w, i32_w]
                rfl
               refine pure_ (i := 5) (N := some 85) (v := ?_) (a' := ?_) #[true, true, true, true, true, true, false, true, true, false, false, false, false] rfl rfl (any_of HT_.out (by kernel_rfl)) (fun _ _ _ h => h) (Or.inl ⟨by rfl, ?_⟩) ?_ ?_
               rotate_left
               ·intro w'
                go_simp
                with_reducible rfl
               rotate_left
               ·simp only [Act.put, List.setIfInBounds_toArray, List.set_cons_zero, List.set_cons_succ, i64_w, i32_w]
                rfl
               refine pure_ (i := 6) (N := some 86) (v := ?_) (a' := ?_) #[true, true, true, true, true, true, true, true, true, false, false, false, false] rfl rfl (any_of HT_.out (by kernel_rfl)) (fun _ _ _ h => h) (Or.inl ⟨by rfl, ?_⟩) ?_ ?_
               rotate_left
               ·intro w'
                go_simp
                with_reducible rfl
               rotate_left
               ·simp only [Act.put, List.setIfInBounds_toArray, List.set_cons_zero, List.set_cons_succ, i64_w, i32_w]
                rfl
               refine one_ (i := 9) (N := some 89) #[true, true, true, true, true, true, true, true, true, true, false, false, false] rfl rfl (one_of HT_.out (by kernel_rfl)) (by decide) (fun K hK => ?_)
               refine goes_ Tryd.func38 (by kernel_rfl) rfl #[.int .i64 t370104, .int .i64 1] (by rfl) rfl rfl (by (try simp only [List.map_toArray, List.map_cons, List.map_nil]); first | done | rfl | (simp only [List.length_drop, List.length_take]; rfl)) ?_
               with_reducible refine (cal_pad.calls kj4 t370104 1 t370118 _ A77.out).mono ?_
               rintro e w88 ⟨rfl, hb⟩
               refine ⟨_, rfl, ?_⟩
               have n0_ := Aside0.mk (blk_below (g := gb370101) (o := .cells #[.int .i64 a0_0, .int .i64 a0_1, .int .i64 a0_2] 23 (0, 0)) (by (with_reducible repeat (first | refine blk_drewN ?_ _ | refine blk_drew ?_ | refine blk_alloc ?_ _)); exact BK370101.out) hb)
               have n1_ := Aside0.mk (blk_below (g := gb370106) (o := .cells #[.int .i64 t370102, .int .i64 t370103, .int .i64 t370104] 86 (0, 0)) (by (with_reducible repeat (first | refine blk_drewN ?_ _ | refine blk_drew ?_ | refine blk_alloc ?_ _)); exact BK370106.out) hb)
               have n2_ := Aside0.mk (below_step (by repeat (first | (with_reducible first | exact HB.out | apply below_alloc | apply pw_below_drewN | apply below_drew1 | refine below_set ?_ GE370101.out | refine below_set ?_ GE370106.out) | exact HB.out)) hb)
               clear BK370101
               clear BK370106
               clear HB
               have BK370101 := n0_
               have BK370106 := n1_
               have HB := n2_
               clear n0_ n1_ n2_
               (try clear hb)
               (try clear hb2)
               (try clear hk)
               (try clear hi)
               refine hK.out _ _ ⟨(blk_cell BK370106.out 0).trans rfl, (blk_cell BK370106.out 1).trans rfl, (blk_cell BK370106.out 2).trans rfl⟩ (fun hHeld => ?_)
               clear hK K
               refine norm_ (a' := ?_) ?_ ?_
               rotate_left
               ·show Act.put _ (some 89) _ = _
                simp only [Act.put, List.setIfInBounds_toArray, List.set_cons_zero, List.set_cons_succ, i64_w, i32_w]
                rfl
               refine pure_ (i := 10) (N := some 90) (v := ?_) (a' := ?_) #[true, true, true, true, true, true, true, true, true, true, true, false, false] rfl rfl (any_of HT_.out (by kernel_rfl)) (fun _ _ _ h => h) (Or.inl ⟨by rfl, ?_⟩) ?_ ?_
               rotate_left
               ·intro w'
                go_simp
                with_reducible rfl
               rotate_left
               ·simp only [Act.put, List.setIfInBounds_toArray, List.set_cons_zero, List.set_cons_succ, i64_w, i32_w]
                rfl
               refine pure_ (i := 11) (N := some 4) (v := ?_) (a' := ?_) #[true, true, true, true, true, true, true, true, true, true, true, true, false] rfl rfl (any_of HT_.out (by kernel_rfl)) (fun _ _ _ h => h) (Or.inl ⟨by rfl, ?_⟩) ?_ ?_
               rotate_left
               ·intro w'
                go_simp
                with_reducible rfl
               rotate_left
               ·simp only [Act.put, List.setIfInBounds_toArray, List.set_cons_zero, List.set_cons_succ, i64_w, i32_w]
                rfl
               refine pure_ (i := 12) (N := some 5) (v := ?_) (a' := ?_) #[true, true, true, true, true, true, true, true, true, true, true, true, true] rfl rfl (any_of HT_.out (by kernel_rfl)) (fun _ _ _ h => h) (Or.inl ⟨by rfl, ?_⟩) ?_ ?_
               rotate_left
               ·intro w'
                go_simp
                with_reducible rfl
               rotate_left
               ·simp only [Act.put, List.setIfInBounds_toArray, List.set_cons_zero, List.set_cons_succ, i64_w, i32_w]
                rfl
               refine done_ (done_of HT_.out (by kernel_rfl)) ?_
               try go_wp2
               go_ret2
               exact ⟨by first | rfl | (simp [errW_none, errW_some] <;> rfl) | (simp [*, errW_none, errW_some] <;> rfl), by repeat (first | (with_reducible first | exact HB.out | apply below_alloc | apply pw_below_drewN | apply below_drew1 | refine below_set ?_ GE370101.out | refine below_set ?_ GE370106.out) | exact HB.out)⟩
              ·rw [if_neg c78] at H
               exact absurd H (by simp)
             ·rw [if_neg c76] at H
              exact absurd H (by simp)
            ·rw [if_neg c75] at H
             exact absurd H (by simp)
           ·rw [if_neg c73] at H
            exact absurd H (by simp)
          ·rw [if_neg c72] at H
           have c72b0 : (a1 == 4) = false := beq_eq_false_iff_ne.mpr c72
           have c72b1 : (a1 != 4) = true := bne_iff_ne.mpr c72
           by_cases c89 : t370116.size + 1 ≤ 9223372036854775807
           ·rw [if_pos c89] at H
            have c89b0 := eq_true c89
            have c89b1 : decide (t370116.size + 1 ≤ 9223372036854775807) = true := decide_eq_true c89
            try have c89b2 : (9223372036854775807 < t370116.size + 1) = False := eq_false (Nat.not_lt.2 c89)
            replace H := Option.bind_eq_some_iff.mp H
            obtain ⟨t370119, A900, H⟩ := H
            replace H : (if t370116.size + 1 + t370119.size ≤ 9223372036854775807 then ((cal_pad.f kj4 t370104 1).bind fun t370120 => (if t370116.size + 1 + t370119.size + t370120.size ≤ 9223372036854775807 then (some (((t370116 ++ (⟨#[87]⟩ : ByteArray)) ++ t370119) ++ t370120, 0)) else (none))) else (none)) = some (r1, r2) := H
            have A90 := Aside0.mk A900
            clear A900
            by_cases c91 : t370116.size + 1 + t370119.size ≤ 9223372036854775807
            ·rw [if_pos c91] at H
             have c91b0 := eq_true c91
             have c91b1 : decide (t370116.size + 1 + t370119.size ≤ 9223372036854775807) = true := decide_eq_true c91
             try have c91b2 : (9223372036854775807 < t370116.size + 1 + t370119.size) = False := eq_false (Nat.not_lt.2 c91)
             replace H := Option.bind_eq_some_iff.mp H
             obtain ⟨t370120, A920, H⟩ := H
             replace H : (if t370116.size + 1 + t370119.size + t370120.size ≤ 9223372036854775807 then (some (((t370116 ++ (⟨#[87]⟩ : ByteArray)) ++ t370119) ++ t370120, 0)) else (none)) = some (r1, r2) := H
             have A92 := Aside0.mk A920
             clear A920
             by_cases c93 : t370116.size + 1 + t370119.size + t370120.size ≤ 9223372036854775807
             ·rw [if_pos c93] at H
              have c93b0 := eq_true c93
              have c93b1 : decide (t370116.size + 1 + t370119.size + t370120.size ≤ 9223372036854775807) = true := decide_eq_true c93
              try have c93b2 : (9223372036854775807 < t370116.size + 1 + t370119.size + t370120.size) = False := eq_false (Nat.not_lt.2 c93)
              simp only [Option.some.injEq, Prod.mk.injEq] at H
              obtain ⟨rfl, rfl⟩ := H
              have hnb94 := NB370101_370106.out
              have hnc94 := NB370106_370101.out
              have hcz95_0 : wc.cell? ⟨gb370101, 0, none⟩ = some (.int .i64 a0_0) := (blk_cell BK370101.out 0).trans rfl
              have hcz95_1 : wc.cell? ⟨gb370101, 1, none⟩ = some (.int .i64 a0_1) := (blk_cell BK370101.out 1).trans rfl
              have hcz95_2 : wc.cell? ⟨gb370101, 2, none⟩ = some (.int .i64 a0_2) := (blk_cell BK370101.out 2).trans rfl
              have hfz95_0 := blk_frozen BK370101.out 0
              have hfz95_1 := blk_frozen BK370101.out 1
              have hfz95_2 := blk_frozen BK370101.out 2
              try go_wp2_with (first | ((with_reducible refine gate_callee (f := 38) rfl ?_); refine goesL_ (some 26) rfl rfl Tryd.func38 (by kernel_rfl) rfl #[.int .i64 a0_0, .int .i64 4] rfl (by (try simp only [List.map_toArray, List.map_cons, List.map_nil]); first | done | rfl | (simp only [List.length_drop, List.length_take]; rfl)) ?_; (with_reducible refine (cal_pad.calls kj4 a0_0 4 t370107 _ A14.out).mono ?_); rintro e w96 ⟨rfl, hb⟩; refine ⟨_, rfl, ?_⟩; have n0_ := Aside0.mk (blk_below (g := gb370101) (o := .cells #[.int .i64 a0_0, .int .i64 a0_1, .int .i64 a0_2] 23 (0, 0)) (by (with_reducible repeat (first | refine blk_drewN ?_ _ | refine blk_drew ?_ | refine blk_alloc ?_ _)); exact BK370101.out) hb); have n1_ := Aside0.mk (blk_below (g := gb370106) (o := .cells #[.int .i64 t370102, .int .i64 t370103, .int .i64 t370104] 86 (0, 0)) (by (with_reducible repeat (first | refine blk_drewN ?_ _ | refine blk_drew ?_ | refine blk_alloc ?_ _)); exact BK370106.out) hb); have n2_ := Aside0.mk (below_step (by repeat (first | (with_reducible first | exact HB.out | apply below_alloc | apply pw_below_drewN | apply below_drew1 | refine below_set ?_ GE370101.out | refine below_set ?_ GE370106.out) | exact HB.out)) hb); clear BK370101; clear BK370106; clear HB; have BK370101 := n0_; have BK370106 := n1_; have HB := n2_; clear n0_ n1_ n2_; (try clear hb); (try clear hb2); (try clear hk); (try clear hi)))
              have n0_ := Aside0.mk (blk_drew BK370101.out)
              have n1_ := Aside0.mk (blk_drew BK370106.out)
              have n2_ := Aside0.mk (below_drew1 HB.out)
              clear BK370101
              clear BK370106
              clear HB
              have BK370101 := n0_
              have BK370106 := n1_
              have HB := n2_
              clear n0_ n1_ n2_
              refine start_ (n := 8) (S := fun w' => w'.cell? ⟨gb370101, 0, none⟩ = some (.int .i64 a0_0) ∧ w'.cell? ⟨gb370101, 1, none⟩ = some (.int .i64 a0_1) ∧ w'.cell? ⟨gb370101, 2, none⟩ = some (.int .i64 a0_2)) (ds := []) #[false, false, false, false, false, false, false, false] (by kernel_rfl) rfl rfl ⟨(blk_cell BK370101.out 0).trans rfl, (blk_cell BK370101.out 1).trans rfl, (blk_cell BK370101.out 2).trans rfl⟩ (fun hHeld => ?_); refine with_tabW cal_PrintDate.tab7 cal_PrintDate.bits7 (fun HT_ HW_ => ?_)
              generalize w96.drew = w97 at BK370101 BK370106 HB hHeld ⊢
              refine pure_ (i := 2) (N := some 29) (v := ?_) (a' := ?_) #[false, false, true, false, false, false, false, false] rfl rfl (any_of HT_.out (by kernel_rfl)) (fun _ _ _ h => h) (Or.inl ⟨by rfl, ?_⟩) ?_ ?_
              rotate_left
              ·intro w'
               go_simp
               with_reducible rfl
              rotate_left
              ·simp only [Act.put, List.setIfInBounds_toArray, List.set_cons_zero, List.set_cons_succ, i64_w, i32_w]
               rfl
              refine take_ (i := 0) (N := some 27) (v := ?_) (a' := ?_) #[true, false, true, false, false, false, false, false] rfl rfl (take_ofW HT_.out HW_.out (by kernel_rfl)) (fun _ _ _ h => h) (Or.inl ⟨by rfl, ?_⟩) hHeld ?_ ?_
              rotate_left
              ·rintro w' ⟨s0, s1, s2⟩
               go_simp
               with_reducible rfl
              rotate_left
              ·simp only [Act.put, List.setIfInBounds_toArray, List.set_cons_zero, List.set_cons_succ, i64_w, i32_w]
               rfl
              refine take_ (i := 3) (N := some 30) (v := ?_) (a' := ?_) #[true, false, true, true, false, false, false, false] rfl rfl (take_ofW HT_.out HW_.out (by kernel_rfl)) (fun _ _ _ h => h) (Or.inl ⟨by rfl, ?_⟩) hHeld ?_ ?_
              rotate_left
              ·rintro w' ⟨s0, s1, s2⟩
               go_simp
               with_reducible rfl
              rotate_left
              ·simp only [Act.put, List.setIfInBounds_toArray, List.set_cons_zero, List.set_cons_succ, i64_w, i32_w]
               rfl
              refine one_ (i := 1) (N := some 28) #[true, true, true, true, false, false, false, false] rfl rfl (one_of HT_.out (by kernel_rfl)) (by decide) (fun K hK => ?_)
              refine goes_ Tryd.func34 (by kernel_rfl) rfl #[.agg #[.int .i64 a0_0, .int .i64 a0_1, .int .i64 a0_2]] (by rfl) rfl rfl (by (try simp only [List.map_toArray, List.map_cons, List.map_nil]); first | done | rfl | (simp only [List.length_drop, List.length_take]; rfl)) ?_
              with_reducible refine (cal_number.calls a0_0 a0_1 a0_2 t370108 _ ?side1 A15.out).mono ?_
              (case side1 => refine GlobOk.below HG.out ?_; repeat (first | (with_reducible first | exact HB.out | apply below_alloc | apply pw_below_drewN | apply below_drew1 | refine below_set ?_ GE370101.out | refine below_set ?_ GE370106.out) | exact HB.out))
              rintro e w98 ⟨rfl, hb⟩
              refine ⟨_, rfl, ?_⟩
              have n0_ := Aside0.mk (blk_below (g := gb370101) (o := .cells #[.int .i64 a0_0, .int .i64 a0_1, .int .i64 a0_2] 23 (0, 0)) (by (with_reducible repeat (first | refine blk_drewN ?_ _ | refine blk_drew ?_ | refine blk_alloc ?_ _)); exact BK370101.out) hb)
              have n1_ := Aside0.mk (blk_below (g := gb370106) (o := .cells #[.int .i64 t370102, .int .i64 t370103, .int .i64 t370104] 86 (0, 0)) (by (with_reducible repeat (first | refine blk_drewN ?_ _ | refine blk_drew ?_ | refine blk_alloc ?_ _)); exact BK370106.out) hb)
              have n2_ := Aside0.mk (below_step (by repeat (first | (with_reducible first | exact HB.out | apply below_alloc | apply pw_below_drewN | apply below_drew1 | refine below_set ?_ GE370101.out | refine below_set ?_ GE370106.out) | exact HB.out)) hb)
              clear BK370101
              clear BK370106
              clear HB
              have BK370101 := n0_
              have BK370106 := n1_
              have HB := n2_
              clear n0_ n1_ n2_
              (try clear hb)
              (try clear hb2)
              (try clear hk)
              (try clear hi)
              refine hK.out _ _ ⟨(blk_cell BK370101.out 0).trans rfl, (blk_cell BK370101.out 1).trans rfl, (blk_cell BK370101.out 2).trans rfl⟩ (fun hHeld => ?_)
              clear hK K
              refine norm_ (a' := ?_) ?_ ?_
              rotate_left
              ·show Act.put _ (some 28) _ = _
               simp only [Act.put, List.setIfInBounds_toArray, List.set_cons_zero, List.set_cons_succ, i64_w, i32_w]
               rfl
              refine one_ (i := 4) (N := some 31) #[true, true, true, true, true, false, false, false] rfl rfl (one_of HT_.out (by kernel_rfl)) (by decide) (fun K hK => ?_)
              refine goes_ Tryd.func71 (by kernel_rfl) rfl #[.int .i64 a0_0] (by rfl) rfl rfl (by (try simp only [List.map_toArray, List.map_cons, List.map_nil]); first | done | rfl | (simp only [List.length_drop, List.length_take]; rfl)) ?_
              with_reducible refine (cal_begin.calls a0_0 t370109 _ A16.out).mono ?_
              rintro e w' ⟨rfl, ⟨nd, rfl⟩⟩
              refine ⟨_, rfl, ?_⟩
              refine hK.out _ _ ⟨(blk_cell BK370101.out 0).trans rfl, (blk_cell BK370101.out 1).trans rfl, (blk_cell BK370101.out 2).trans rfl⟩ (fun hHeld => ?_)
              clear hK K
              refine norm_ (a' := ?_) ?_ ?_
              rotate_left
              ·show Act.put _ (some 31) _ = _
               simp only [Act.put, List.setIfInBounds_toArray, List.set_cons_zero, List.set_cons_succ, i64_w, i32_w]
               rfl
              refine pure_ (i := 5) (N := some 32) (v := ?_) (a' := ?_) #[true, true, true, true, true, true, false, false] rfl rfl (any_of HT_.out (by kernel_rfl)) (fun _ _ _ h => h) (Or.inl ⟨by rfl, ?_⟩) ?_ ?_
              rotate_left
              ·intro w'
               go_simp
               with_reducible rfl
              rotate_left
              ·simp only [Act.put, List.setIfInBounds_toArray, List.set_cons_zero, List.set_cons_succ, i64_w, i32_w]
               rfl
              refine pure_ (i := 6) (N := some 33) (v := ?_) (a' := ?_) #[true, true, true, true, true, true, true, false] rfl rfl (any_of HT_.out (by kernel_rfl)) (fun _ _ _ h => h) (Or.inl ⟨by rfl, ?_⟩) ?_ ?_
              rotate_left
              ·intro w'
               go_simp
               with_reducible rfl
              rotate_left
              ·simp only [Act.put, List.setIfInBounds_toArray, List.set_cons_zero, List.set_cons_succ, i64_w, i32_w]
               rfl
              refine pure_ (i := 7) (N := some 9) (v := ?_) (a' := ?_) #[true, true, true, true, true, true, true, true] rfl rfl (any_of HT_.out (by kernel_rfl)) (fun _ _ _ h => h) (Or.inl ⟨by rfl, ?_⟩) ?_ ?_
              rotate_left
              ·intro w'
               go_simp
               with_reducible rfl
              rotate_left
              ·simp only [Act.put, List.setIfInBounds_toArray, List.set_cons_zero, List.set_cons_succ, i64_w, i32_w]
               rfl
              refine done_ (done_of HT_.out (by kernel_rfl)) ?_
              have hcz99_0 : w98.cell? ⟨gb370106, 0, none⟩ = some (.int .i64 t370102) := (blk_cell BK370106.out 0).trans rfl
              have hcz99_1 : w98.cell? ⟨gb370106, 1, none⟩ = some (.int .i64 t370103) := (blk_cell BK370106.out 1).trans rfl
              have hcz99_2 : w98.cell? ⟨gb370106, 2, none⟩ = some (.int .i64 t370104) := (blk_cell BK370106.out 2).trans rfl
              have hfz99_0 := blk_frozen BK370106.out 0
              have hfz99_1 := blk_frozen BK370106.out 1
              have hfz99_2 := blk_frozen BK370106.out 2
              try go_wp2_with (first | ((with_reducible refine gate_callee (f := 38) rfl ?_); refine goesL_ (some 77) rfl rfl Tryd.func38 (by kernel_rfl) rfl #[.int .i64 t370102, .int .i64 4] rfl (by (try simp only [List.map_toArray, List.map_cons, List.map_nil]); first | done | rfl | (simp only [List.length_drop, List.length_take]; rfl)) ?_; (with_reducible refine (cal_pad.calls kj4 t370102 4 t370116 _ A71.out).mono ?_); rintro e w100 ⟨rfl, hb⟩; refine ⟨_, rfl, ?_⟩; have n0_ := Aside0.mk (blk_below (g := gb370101) (o := .cells #[.int .i64 a0_0, .int .i64 a0_1, .int .i64 a0_2] 23 (0, 0)) (by (with_reducible repeat (first | refine blk_drewN ?_ _ | refine blk_drew ?_ | refine blk_alloc ?_ _)); exact BK370101.out) hb); have n1_ := Aside0.mk (blk_below (g := gb370106) (o := .cells #[.int .i64 t370102, .int .i64 t370103, .int .i64 t370104] 86 (0, 0)) (by (with_reducible repeat (first | refine blk_drewN ?_ _ | refine blk_drew ?_ | refine blk_alloc ?_ _)); exact BK370106.out) hb); have n2_ := Aside0.mk (below_step (by repeat (first | (with_reducible first | exact HB.out | apply below_alloc | apply pw_below_drewN | apply below_drew1 | refine below_set ?_ GE370101.out | refine below_set ?_ GE370106.out) | exact HB.out)) hb); clear BK370101; clear BK370106; clear HB; have BK370101 := n0_; have BK370106 := n1_; have HB := n2_; clear n0_ n1_ n2_; (try clear hb); (try clear hb2); (try clear hk); (try clear hi)))
              have n0_ := Aside0.mk (blk_drew BK370101.out)
              have n1_ := Aside0.mk (blk_drew BK370106.out)
              have n2_ := Aside0.mk (below_drew1 HB.out)
              clear BK370101
              clear BK370106
              clear HB
              have BK370101 := n0_
              have BK370106 := n1_
              have HB := n2_
              clear n0_ n1_ n2_
              refine start_ (n := 12) (S := fun w' => w'.cell? ⟨gb370106, 0, none⟩ = some (.int .i64 t370102) ∧ w'.cell? ⟨gb370106, 1, none⟩ = some (.int .i64 t370103) ∧ w'.cell? ⟨gb370106, 2, none⟩ = some (.int .i64 t370104)) (ds := []) #[false, false, false, false, false, false, false, false, false, false, false, false] (by kernel_rfl) rfl rfl ⟨(blk_cell BK370106.out 0).trans rfl, (blk_cell BK370106.out 1).trans rfl, (blk_cell BK370106.out 2).trans rfl⟩ (fun hHeld => ?_); refine with_tabW cal_PrintDate.tab22 cal_PrintDate.bits22 (fun HT_ HW_ => ?_)
              generalize w100.drew = w101 at BK370101 BK370106 HB hHeld ⊢
              refine pure_ (i := 0) (N := some 91) (v := ?_) (a' := ?_) #[true, false, false, false, false, false, false, false, false, false, false, false] rfl rfl (any_of HT_.out (by kernel_rfl)) (fun _ _ _ h => h) (Or.inl ⟨by rfl, ?_⟩) ?_ ?_
              rotate_left
              ·intro w'
               go_simp
               with_reducible rfl
              rotate_left
              ·simp only [Act.put, List.setIfInBounds_toArray, List.set_cons_zero, List.set_cons_succ, i64_w, i32_w]
               rfl
              refine pure_ (i := 1) (N := some 92) (v := ?_) (a' := ?_) #[true, true, false, false, false, false, false, false, false, false, false, false] rfl rfl (any_of HT_.out (by kernel_rfl)) (fun _ _ _ h => h) (Or.inl ⟨by rfl, ?_⟩) ?_ ?_
              rotate_left
              ·intro w'
               go_simp
               with_reducible rfl
              rotate_left
              ·simp only [Act.put, List.setIfInBounds_toArray, List.set_cons_zero, List.set_cons_succ, i64_w, i32_w]
               rfl
              refine pure_ (i := 2) (N := some 93) (v := ?_) (a' := ?_) #[true, true, true, false, false, false, false, false, false, false, false, false] rfl rfl (any_of HT_.out (by kernel_rfl)) (fun _ _ _ h => h) (Or.inl ⟨by rfl, ?_⟩) ?_ ?_
              rotate_left
              ·intro w'
               go_simp
               with_reducible rfl
              rotate_left
              ·simp only [Act.put, List.setIfInBounds_toArray, List.set_cons_zero, List.set_cons_succ, i64_w, i32_w]
               rfl
              refine pure_ (i := 6) (N := some 97) (v := ?_) (a' := ?_) #[true, true, true, false, false, false, true, false, false, false, false, false] rfl rfl (any_of HT_.out (by kernel_rfl)) (fun _ _ _ h => h) (Or.inl ⟨by rfl, ?_⟩) ?_ ?_
              rotate_left
              ·intro w'
               go_simp
               with_reducible rfl
              rotate_left
              ·simp only [Act.put, List.setIfInBounds_toArray, List.set_cons_zero, List.set_cons_succ, i64_w, i32_w]
               rfl
              refine take_ (i := 3) (N := some 94) (v := ?_) (a' := ?_) #[true, true, true, true, false, false, true, false, false, false, false, false] rfl rfl (take_ofW HT_.out HW_.out (by kernel_rfl)) (fun _ _ _ h => h) (Or.inl ⟨by rfl, ?_⟩) hHeld ?_ ?_
              rotate_left
              ·rintro w' ⟨s0, s1, s2⟩
               go_simp
               with_reducible rfl
              rotate_left
              ·simp only [Act.put, List.setIfInBounds_toArray, List.set_cons_zero, List.set_cons_succ, i64_w, i32_w]
               rfl
              refine take_ (i := 7) (N := some 98) (v := ?_) (a' := ?_) #[true, true, true, true, false, false, true, true, false, false, false, false] rfl rfl (take_ofW HT_.out HW_.out (by kernel_rfl)) (fun _ _ _ h => h) (Or.inl ⟨by rfl, ?_⟩) hHeld ?_ ?_
              rotate_left
              ·rintro w' ⟨s0, s1, s2⟩
               go_simp
               with_reducible rfl
              rotate_left
              ·simp only [Act.put, List.setIfInBounds_toArray, List.set_cons_zero, List.set_cons_succ, i64_w, i32_w]
               rfl
              refine one_ (i := 4) (N := some 95) #[true, true, true, true, true, false, true, true, false, false, false, false] rfl rfl (one_of HT_.out (by kernel_rfl)) (by decide) (fun K hK => ?_)
              refine goes_ Tryd.func38 (by kernel_rfl) rfl #[.int .i64 t370103, .int .i64 2] (by rfl) rfl rfl (by (try simp only [List.map_toArray, List.map_cons, List.map_nil]); first | done | rfl | (simp only [List.length_drop, List.length_take]; rfl)) ?_
              with_reducible refine (cal_pad.calls kj4 t370103 2 t370119 _ A90.out).mono ?_
              rintro e w102 ⟨rfl, hb⟩
              refine ⟨_, rfl, ?_⟩
              have n0_ := Aside0.mk (blk_below (g := gb370101) (o := .cells #[.int .i64 a0_0, .int .i64 a0_1, .int .i64 a0_2] 23 (0, 0)) (by (with_reducible repeat (first | refine blk_drewN ?_ _ | refine blk_drew ?_ | refine blk_alloc ?_ _)); exact BK370101.out) hb)
              have n1_ := Aside0.mk (blk_below (g := gb370106) (o := .cells #[.int .i64 t370102, .int .i64 t370103, .int .i64 t370104] 86 (0, 0)) (by (with_reducible repeat (first | refine blk_drewN ?_ _ | refine blk_drew ?_ | refine blk_alloc ?_ _)); exact BK370106.out) hb)
              have n2_ := Aside0.mk (below_step (by repeat (first | (with_reducible first | exact HB.out | apply below_alloc | apply pw_below_drewN | apply below_drew1 | refine below_set ?_ GE370101.out | refine below_set ?_ GE370106.out) | exact HB.out)) hb)
              clear BK370101
              clear BK370106
              clear HB
              have BK370101 := n0_
              have BK370106 := n1_
              have HB := n2_
              clear n0_ n1_ n2_
              (try clear hb)
              (try clear hb2)
              (try clear hk)
              (try clear hi)
              refine hK.out _ _ ⟨(blk_cell BK370106.out 0).trans rfl, (blk_cell BK370106.out 1).trans rfl, (blk_cell BK370106.out 2).trans rfl⟩ (fun hHeld => ?_)
              clear hK K
              refine norm_ (a' := ?_) ?_ ?_
              rotate_left
              ·show Act.put _ (some 95) _ = _
               simp only [Act.put, List.setIfInBounds_toArray, List.set_cons_zero, List.set_cons_succ, i64_w, i32_w]
               rfl
              refine pure_ (i := 5) (N := some 96) (v := ?_) (a' := ?_) #[true, true, true, true, true, true, true, true, false, false, false, false] rfl rfl (any_of HT_.out (by kernel_rfl)) (fun _ _ _ h => h) (Or.inl ⟨by rfl, ?_⟩) ?_ ?_
              rotate_left
              ·intro w'
               go_simp
               with_reducible rfl
              rotate_left
              ·simp only [Act.put, List.setIfInBounds_toArray, List.set_cons_zero, List.set_cons_succ, i64_w, i32_w]
               rfl
              refine one_ (i := 8) (N := some 99) #[true, true, true, true, true, true, true, true, true, false, false, false] rfl rfl (one_of HT_.out (by kernel_rfl)) (by decide) (fun K hK => ?_)
              refine goes_ Tryd.func38 (by kernel_rfl) rfl #[.int .i64 t370104, .int .i64 1] (by rfl) rfl rfl (by (try simp only [List.map_toArray, List.map_cons, List.map_nil]); first | done | rfl | (simp only [List.length_drop, List.length_take]; rfl)) ?_
              with_reducible refine (cal_pad.calls kj4 t370104 1 t370120 _ A92.out).mono ?_
              rintro e w103 ⟨rfl, hb⟩
              refine ⟨_, rfl, ?_⟩
              have n0_ := Aside0.mk (blk_below (g := gb370101) (o := .cells #[.int .i64 a0_0, .int .i64 a0_1, .int .i64 a0_2] 23 (0, 0)) (by (with_reducible repeat (first | refine blk_drewN ?_ _ | refine blk_drew ?_ | refine blk_alloc ?_ _)); exact BK370101.out) hb)
              have n1_ := Aside0.mk (blk_below (g := gb370106) (o := .cells #[.int .i64 t370102, .int .i64 t370103, .int .i64 t370104] 86 (0, 0)) (by (with_reducible repeat (first | refine blk_drewN ?_ _ | refine blk_drew ?_ | refine blk_alloc ?_ _)); exact BK370106.out) hb)
              have n2_ := Aside0.mk (below_step (by repeat (first | (with_reducible first | exact HB.out | apply below_alloc | apply pw_below_drewN | apply below_drew1 | refine below_set ?_ GE370101.out | refine below_set ?_ GE370106.out) | exact HB.out)) hb)
              clear BK370101
              clear BK370106
              clear HB
              have BK370101 := n0_
              have BK370106 := n1_
              have HB := n2_
              clear n0_ n1_ n2_
              (try clear hb)
              (try clear hb2)
              (try clear hk)
              (try clear hi)
              refine hK.out _ _ ⟨(blk_cell BK370106.out 0).trans rfl, (blk_cell BK370106.out 1).trans rfl, (blk_cell BK370106.out 2).trans rfl⟩ (fun hHeld => ?_)
              clear hK K
              refine norm_ (a' := ?_) ?_ ?_
              rotate_left
              ·show Act.put _ (some 99) _ = _
               simp only [Act.put, List.setIfInBounds_toArray, List.set_cons_zero, List.set_cons_succ, i64_w, i32_w]
               rfl
              refine pure_ (i := 9) (N := some 100) (v := ?_) (a' := ?_) #[true, true, true, true, true, true, true, true, true, true, false, false] rfl rfl (any_of HT_.out (by kernel_rfl)) (fun _ _ _ h => h) (Or.inl ⟨by rfl, ?_⟩) ?_ ?_
              rotate_left
              ·intro w'
               go_simp
               with_reducible rfl
              rotate_left
              ·simp only [Act.put, List.setIfInBounds_toArray, List.set_cons_zero, List.set_cons_succ, i64_w, i32_w]
               rfl
              refine pure_ (i := 10) (N := some 4) (v := ?_) (a' := ?_) #[true, true, true, true, true, true, true, true, true, true, true, false] rfl rfl (any_of HT_.out (by kernel_rfl)) (fun _ _ _ h => h) (Or.inl ⟨by rfl, ?_⟩) ?_ ?_
              rotate_left
              ·intro w'
               go_simp
               with_reducible rfl
              rotate_left
              ·simp only [Act.put, List.setIfInBounds_toArray, List.set_cons_zero, List.set_cons_succ, i64_w, i32_w]
               rfl
              refine pure_ (i := 11) (N := some 5) (v := ?_) (a' := ?_) #[true, true, true, true, true, true, true, true, true, true, true, true] rfl rfl (any_of HT_.out (by kernel_rfl)) (fun _ _ _ h => h) (Or.inl ⟨by rfl, ?_⟩) ?_ ?_
              rotate_left
              ·intro w'
               go_simp
               with_reducible rfl
              rotate_left
              ·simp only [Act.put, List.setIfInBounds_toArray, List.set_cons_zero, List.set_cons_succ, i64_w, i32_w]
               rfl
              refine done_ (done_of HT_.out (by kernel_rfl)) ?_
              try go_wp2
              go_ret2
              exact ⟨by first | rfl | (simp [errW_none, errW_some] <;> rfl) | (simp [*, errW_none, errW_some] <;> rfl), by repeat (first | (with_reducible first | exact HB.out | apply below_alloc | apply pw_below_drewN | apply below_drew1 | refine below_set ?_ GE370101.out | refine below_set ?_ GE370106.out) | exact HB.out)⟩
             ·rw [if_neg c93] at H
              exact absurd H (by simp)
            ·rw [if_neg c91] at H
             exact absurd H (by simp)
           ·rw [if_neg c89] at H
            exact absurd H (by simp)
 ·rw [if_neg c4] at H
  have c4b0 : (t370105 == 0) = false := beq_eq_false_iff_ne.mpr c4
  have c4b1 : (t370105 != 0) = true := bne_iff_ne.mpr c4
  simp only [Option.some.injEq, Prod.mk.injEq] at H
  obtain ⟨rfl, rfl⟩ := H
  go_enter Tryd.func37, Tryd.ntmps37
  go_wp2_with (first | ((with_reducible refine gate_dst (N := 2) rfl ?_); refine box_event ?hg (N := 2) ?hd (cs := #[.int .i64 a0_0, .int .i64 a0_1, .int .i64 a0_2]) (t := 23) ?hr ?_; (case hd => rfl); (case hg => rfl); (case hr => first | (go_simp; done) | (go_simp; rfl)); intro gb370101 hg w104 hbox hb; have n0_ := Aside0.mk (below_step (by repeat (first | (with_reducible first | exact HB.out | apply below_alloc | apply pw_below_drewN | apply below_drew1) | exact HB.out)) hb); have n1_ := Aside0.mk (hbox); have n2_ := Aside0.mk ((by rw [hg]; exact (below_size (by repeat (first | (with_reducible first | exact HB.out | apply below_alloc | apply pw_below_drewN | apply below_drew1) | exact HB.out))) : w.heap.size ≤ gb370101)); have n3_ := Aside0.mk ((by rw [hg]; exact (below_size (by repeat (first | (with_reducible first | exact HB.out | apply below_alloc | apply pw_below_drewN | apply below_drew1) | exact HB.out))) : w.heap.size ≤ gb370101)); clear HB; have HB := n0_; have BK370101 := n1_; have GW370101 := n2_; have GE370101 := n3_; clear n0_ n1_ n2_ n3_; clear hb hbox hg; have hcz105_0 : w104.cell? ⟨gb370101, 0, none⟩ = some (.int .i64 a0_0) := (blk_cell BK370101.out 0).trans rfl; have hcz105_1 : w104.cell? ⟨gb370101, 1, none⟩ = some (.int .i64 a0_1) := (blk_cell BK370101.out 1).trans rfl; have hcz105_2 : w104.cell? ⟨gb370101, 2, none⟩ = some (.int .i64 a0_2) := (blk_cell BK370101.out 2).trans rfl; have hfz105_0 := blk_frozen BK370101.out 0; have hfz105_1 := blk_frozen BK370101.out 1; have hfz105_2 := blk_frozen BK370101.out 2) | ((with_reducible refine gate_callee (f := 73) rfl ?_); refine goesL_ (some 12) rfl rfl Tryd.func73 (by kernel_rfl) rfl #[.agg #[.int .i64 a0_0, .int .i64 a0_1, .int .i64 a0_2]] rfl (by (try simp only [List.map_toArray, List.map_cons, List.map_nil]); first | done | rfl | (simp only [List.length_drop, List.length_take]; rfl)) ?_; (with_reducible refine (cal_WeekOf.calls a0_0 a0_1 a0_2 t370102 t370103 t370104 t370105 _ ?side1 A3.out).mono ?_); (case side1 => refine GlobOk.below HG.out ?_; repeat (first | (with_reducible first | exact HB.out | apply below_alloc | apply pw_below_drewN | apply below_drew1 | refine below_set ?_ GE370101.out) | exact HB.out)); rintro e w106 ⟨rfl, hb⟩; refine ⟨_, rfl, ?_⟩; have n0_ := Aside0.mk (blk_below (g := gb370101) (o := .cells #[.int .i64 a0_0, .int .i64 a0_1, .int .i64 a0_2] 23 (0, 0)) (by (with_reducible repeat (first | refine blk_drewN ?_ _ | refine blk_drew ?_ | refine blk_alloc ?_ _)); exact BK370101.out) hb); have n1_ := Aside0.mk (below_step (by repeat (first | (with_reducible first | exact HB.out | apply below_alloc | apply pw_below_drewN | apply below_drew1 | refine below_set ?_ GE370101.out) | exact HB.out)) hb); clear BK370101; clear HB; have BK370101 := n0_; have HB := n1_; clear n0_ n1_; (try clear hb); (try clear hb2); (try clear hk); (try clear hi)) | ((with_reducible refine gate_dst (N := 6) rfl ?_); refine box_event ?hg (N := 6) ?hd (cs := #[.int .i64 0, .int .i64 0, .int .i64 0]) (t := 86) ?hr ?_; (case hd => rfl); (case hg => rfl); (case hr => first | (go_simp; done) | (go_simp; rfl)); intro gb370106 hg w107 hbox hb; have n0_ := Aside0.mk (blk_below (g := gb370101) (o := .cells #[.int .i64 a0_0, .int .i64 a0_1, .int .i64 a0_2] 23 (0, 0)) (by (with_reducible repeat (first | refine blk_drewN ?_ _ | refine blk_drew ?_ | refine blk_alloc ?_ _)); exact BK370101.out) hb); have n1_ := Aside0.mk (below_step (by repeat (first | (with_reducible first | exact HB.out | apply below_alloc | apply pw_below_drewN | apply below_drew1 | refine below_set ?_ GE370101.out) | exact HB.out)) hb); have n2_ := Aside0.mk (hbox); have n3_ := Aside0.mk ((by rw [hg]; exact (below_size (by repeat (first | (with_reducible first | exact HB.out | apply below_alloc | apply pw_below_drewN | apply below_drew1 | refine below_set ?_ GE370101.out) | exact HB.out))) : w.heap.size ≤ gb370106)); have n4_ := Aside0.mk ((by rw [hg]; exact (below_size (by repeat (first | (with_reducible first | exact HB.out | apply below_alloc | apply pw_below_drewN | apply below_drew1 | refine below_set ?_ GE370101.out) | exact HB.out))) : w.heap.size ≤ gb370106)); have n5_ := Aside0.mk ((by rw [hg]; exact Nat.ne_of_lt (blk_lt (g := gb370101) (o := .cells #[.int .i64 a0_0, .int .i64 a0_1, .int .i64 a0_2] 23 (0, 0)) (by (with_reducible repeat (first | refine blk_drewN ?_ _ | refine blk_drew ?_ | refine blk_alloc ?_ _)); exact BK370101.out)) : gb370101 ≠ gb370106)); have n6_ := Aside0.mk ((by rw [hg]; exact Nat.ne_of_gt (blk_lt (g := gb370101) (o := .cells #[.int .i64 a0_0, .int .i64 a0_1, .int .i64 a0_2] 23 (0, 0)) (by (with_reducible repeat (first | refine blk_drewN ?_ _ | refine blk_drew ?_ | refine blk_alloc ?_ _)); exact BK370101.out)) : gb370106 ≠ gb370101)); clear BK370101; clear HB; have BK370101 := n0_; have HB := n1_; have BK370106 := n2_; have GW370106 := n3_; have GE370106 := n4_; have NB370101_370106 := n5_; have NB370106_370101 := n6_; clear n0_ n1_ n2_ n3_ n4_ n5_ n6_; clear hb hbox hg; have hnb108 := NB370106_370101.out; have hnc108 := NB370101_370106.out; have hcz109_0 : w107.cell? ⟨gb370106, 0, none⟩ = some (.int .i64 0) := (blk_cell BK370106.out 0).trans rfl; have hcz109_1 : w107.cell? ⟨gb370106, 1, none⟩ = some (.int .i64 0) := (blk_cell BK370106.out 1).trans rfl; have hcz109_2 : w107.cell? ⟨gb370106, 2, none⟩ = some (.int .i64 0) := (blk_cell BK370106.out 2).trans rfl; have hfz109_0 := blk_frozen BK370106.out 0; have hfz109_1 := blk_frozen BK370106.out 1; have hfz109_2 := blk_frozen BK370106.out 2))
  go_ret2
  exact ⟨by first | rfl | (simp [errW_none, errW_some] <;> rfl) | (simp [*, errW_none, errW_some] <;> rfl), by repeat (first | (with_reducible first | exact HB.out | apply below_alloc | apply pw_below_drewN | apply below_drew1 | refine below_set ?_ GE370101.out | refine below_set ?_ GE370106.out) | exact HB.out)⟩

end Go.Proofs.YtiklakkkgmilnaaDoor.GC
