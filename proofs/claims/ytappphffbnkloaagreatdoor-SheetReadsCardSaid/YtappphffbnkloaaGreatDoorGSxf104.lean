-- written by a program (gp.py over the kit's print) for this claim
import Derived.Test.YtappphffbnkloaaGreatDoorGSx0
import Derived.Test.YtappphffbnkloaaGreatDoorGSxf96
import Derived.Test.YtappphffbnkloaaGreatDoorGSxf71
import Derived.Test.YtappphffbnkloaaGreatDoorGSxf114
namespace Go.Proofs.YtappphffbnkloaaGreatDoor.GS
open Go.RowKit Go.Proofs.YtappphffbnkloaaGreatDoorW.PrintWords Go.Proofs.YtappphffbnkloaaGreatDoorW.PrintLast Go.Proofs.YtappphffbnkloaaGreatDoor.Ext
attribute [local go_sem] max2_int min2_int max_two min_two   -- for this text alone
set_option linter.unusedVariables false
set_option linter.unusedSimpArgs false

mutual
def larderref04_cell.j0 : Nat → ByteArray → Int → Bool → Option (ByteArray × Int × Int × Int × Int × Int × Int)
  | 0, _, _, _ => none
  | k + 1, x0, x1, x20 => if x20 = true then ((larderref04_quoted.f k x0 x1).bind fun bt1040102 => (if bt1040102.2.2.1 = 0 then (if bt1040102.2.1 = (x0.size : Int) then (larderref04_cell.j1 k x0 bt1040102.1 bt1040102.2.1 true bt1040102.2.2.1 bt1040102.2.2.2.1 bt1040102.2.2.2.2.1 bt1040102.2.2.2.2.2.1 bt1040102.2.2.2.2.2.2) else (if 0 ≤ bt1040102.2.1 then (if bt1040102.2.1 < (x0.size : Int) then (if (bt x0 bt1040102.2.1) = 44 then (larderref04_cell.j1 k x0 bt1040102.1 bt1040102.2.1 true bt1040102.2.2.1 bt1040102.2.2.2.1 bt1040102.2.2.2.2.1 bt1040102.2.2.2.2.2.1 bt1040102.2.2.2.2.2.2) else (larderref04_cell.j1 k x0 bt1040102.1 bt1040102.2.1 ((bt x0 bt1040102.2.1) == 13) bt1040102.2.2.1 bt1040102.2.2.2.1 bt1040102.2.2.2.2.1 bt1040102.2.2.2.2.2.1 bt1040102.2.2.2.2.2.2)) else (none)) else (none))) else (larderref04_cell.j1 k x0 bt1040102.1 bt1040102.2.1 true bt1040102.2.2.1 bt1040102.2.2.2.1 bt1040102.2.2.2.2.1 bt1040102.2.2.2.2.2.1 bt1040102.2.2.2.2.2.2))) else (larderref04_cell.l0 k x0 x1 x1)
def larderref04_cell.j1 : Nat → ByteArray → ByteArray → Int → Bool → Int → Int → Int → Int → Int → Option (ByteArray × Int × Int × Int × Int × Int × Int)
  | 0, _, _, _, _, _, _, _, _, _ => none
  | k + 1, x0, x7, x8, x48, x1040110000, x1040110001, x1040110002, x1040110003, x1040110004 => if x48 = true then (some (x7, x8, x1040110000, x1040110001, x1040110002, x1040110003, x1040110004)) else (if 0 ≤ x8 then (if x8 < (x0.size : Int) then (if (bt x0 x8) = 10 then ((larderref04_placed.f k x0 3 x8).bind fun bt1040110 => (some ((⟨#[]⟩ : ByteArray), 0, bt1040110.1, bt1040110.2.1, bt1040110.2.2.1, bt1040110.2.2.2.1, bt1040110.2.2.2.2))) else ((larderref04_placed.f k x0 2 x8).bind fun bt1040115 => (some ((⟨#[]⟩ : ByteArray), 0, bt1040115.1, bt1040115.2.1, bt1040115.2.2.1, bt1040115.2.2.2.1, bt1040115.2.2.2.2)))) else (none)) else (none))
def larderref04_cell.l0 : Nat → ByteArray → Int → Int → Option (ByteArray × Int × Int × Int × Int × Int × Int)
  | 0, _, _, _ => none
  | k + 1, x0, x1, x10 => if x10 < (x0.size : Int) then (if 0 ≤ x10 then (if (bt x0 x10) = 44 then (larderref04_cell.j3 k x0 x1 x10 false) else (larderref04_cell.j3 k x0 x1 x10 ((bt x0 x10) != 13))) else (none)) else (larderref04_cell.j3 k x0 x1 x10 false)
def larderref04_cell.j3 : Nat → ByteArray → Int → Int → Bool → Option (ByteArray × Int × Int × Int × Int × Int × Int)
  | 0, _, _, _, _ => none
  | k + 1, x0, x1, x10, x78 => if x78 = true then (if 0 ≤ x10 then (if x10 < (x0.size : Int) then (if (bt x0 x10) = 10 then ((larderref04_placed.f k x0 3 x10).bind fun bt1040120 => (some ((⟨#[]⟩ : ByteArray), 0, bt1040120.1, bt1040120.2.1, bt1040120.2.2.1, bt1040120.2.2.2.1, bt1040120.2.2.2.2))) else (if (bt x0 x10) = 34 then ((larderref04_placed.f k x0 2 x10).bind fun bt1040125 => (some ((⟨#[]⟩ : ByteArray), 0, bt1040125.1, bt1040125.2.1, bt1040125.2.2.1, bt1040125.2.2.2.1, bt1040125.2.2.2.2))) else (if (bt x0 x10) = 9 then (larderref04_cell.j4 k x0 x1 x10 true) else ((larderref04_may.f (bt x0 x10)).bind fun t1040130 => (larderref04_cell.j4 k x0 x1 x10 (!t1040130)))))) else (none)) else (none)) else (if 0 ≤ x1 then (if x1 ≤ x10 then (if x10 ≤ (x0.size : Int) then (some (x0.extract (x1 : Int).toNat (x10 : Int).toNat, x10, 0, 0, 0, 0, 0)) else (none)) else (none)) else (none))
def larderref04_cell.j4 : Nat → ByteArray → Int → Int → Bool → Option (ByteArray × Int × Int × Int × Int × Int × Int)
  | 0, _, _, _, _ => none
  | k + 1, x0, x1, x10, x95 => if x95 = true then ((larderref04_placed.f k x0 4 x10).bind fun bt1040131 => (some ((⟨#[]⟩ : ByteArray), 0, bt1040131.1, bt1040131.2.1, bt1040131.2.2.1, bt1040131.2.2.2.1, bt1040131.2.2.2.2))) else (if (wrap64 (x10 - x1)) = 4096 then ((larderref04_placed.f k x0 5 x10).bind fun bt1040136 => (some ((⟨#[]⟩ : ByteArray), 0, bt1040136.1, bt1040136.2.1, bt1040136.2.2.1, bt1040136.2.2.2.1, bt1040136.2.2.2.2))) else (larderref04_cell.l0 k x0 x1 (wrap64 (x10 + 1))))
end
def larderref04_cell.f (k : Nat) (a0 : ByteArray) (a1 : Int) : Option (ByteArray × Int × Int × Int × Int × Int × Int) := if a1 < (a0.size : Int) then (if 0 ≤ a1 then (larderref04_cell.j0 k a0 a1 ((bt a0 a1) == 34)) else (none)) else (larderref04_cell.j0 k a0 a1 false)
theorem larderref04_cell.mono_l : ∀ k, (∀ y0 y1 y2, LeO (larderref04_cell.j0 k y0 y1 y2) (larderref04_cell.j0 (k + 1) y0 y1 y2)) ∧ (∀ y0 y1 y2 y3 y4 y5 y6 y7 y8, LeO (larderref04_cell.j1 k y0 y1 y2 y3 y4 y5 y6 y7 y8) (larderref04_cell.j1 (k + 1) y0 y1 y2 y3 y4 y5 y6 y7 y8)) ∧ (∀ y0 y1 y2, LeO (larderref04_cell.l0 k y0 y1 y2) (larderref04_cell.l0 (k + 1) y0 y1 y2)) ∧ (∀ y0 y1 y2 y3, LeO (larderref04_cell.j3 k y0 y1 y2 y3) (larderref04_cell.j3 (k + 1) y0 y1 y2 y3)) ∧ (∀ y0 y1 y2 y3, LeO (larderref04_cell.j4 k y0 y1 y2 y3) (larderref04_cell.j4 (k + 1) y0 y1 y2 y3))
  | 0 => ⟨fun _ _ _ r h => by simp [larderref04_cell.j0] at h, fun _ _ _ _ _ _ _ _ _ r h => by simp [larderref04_cell.j1] at h, fun _ _ _ r h => by simp [larderref04_cell.l0] at h, fun _ _ _ _ r h => by simp [larderref04_cell.j3] at h, fun _ _ _ _ r h => by simp [larderref04_cell.j4] at h⟩
  | k + 1 => by
    obtain ⟨ih0, ih1, ih2, ih3, ih4⟩ := larderref04_cell.mono_l k
    refine ⟨?_, ?_, ?_, ?_, ?_⟩
    · intro y0 y1 y2
      unfold larderref04_cell.j0
      repeat' first
      | (with_reducible exact ih0 _ _ _)
      | (with_reducible exact ih1 _ _ _ _ _ _ _ _ _)
      | (with_reducible exact ih2 _ _ _)
      | (with_reducible exact ih3 _ _ _ _)
      | (with_reducible exact ih4 _ _ _ _)
      | (with_reducible exact larderref04_placed.mono _ _ _ _)
      | (with_reducible exact larderref04_quoted.mono _ _ _)
      | (with_reducible exact LeO.refl _)
      | (with_reducible exact LeO.none _)
      | (with_reducible refine LeO.ite ?_ ?_)
      | (with_reducible refine LeO.bind ?_ (fun _ => ?_))
      | exact ih0 _ _ _
      | exact ih1 _ _ _ _ _ _ _ _ _
      | exact ih2 _ _ _
      | exact ih3 _ _ _ _
      | exact ih4 _ _ _ _
      | exact larderref04_placed.mono _ _ _ _
      | exact larderref04_quoted.mono _ _ _
      | exact LeO.none _
      | refine LeO.ite ?_ ?_
      | refine LeO.bind ?_ (fun _ => ?_)
    · intro y0 y1 y2 y3 y4 y5 y6 y7 y8
      unfold larderref04_cell.j1
      repeat' first
      | (with_reducible exact ih0 _ _ _)
      | (with_reducible exact ih1 _ _ _ _ _ _ _ _ _)
      | (with_reducible exact ih2 _ _ _)
      | (with_reducible exact ih3 _ _ _ _)
      | (with_reducible exact ih4 _ _ _ _)
      | (with_reducible exact larderref04_placed.mono _ _ _ _)
      | (with_reducible exact larderref04_quoted.mono _ _ _)
      | (with_reducible exact LeO.refl _)
      | (with_reducible exact LeO.none _)
      | (with_reducible refine LeO.ite ?_ ?_)
      | (with_reducible refine LeO.bind ?_ (fun _ => ?_))
      | exact ih0 _ _ _
      | exact ih1 _ _ _ _ _ _ _ _ _
      | exact ih2 _ _ _
      | exact ih3 _ _ _ _
      | exact ih4 _ _ _ _
      | exact larderref04_placed.mono _ _ _ _
      | exact larderref04_quoted.mono _ _ _
      | exact LeO.none _
      | refine LeO.ite ?_ ?_
      | refine LeO.bind ?_ (fun _ => ?_)
    · intro y0 y1 y2
      unfold larderref04_cell.l0
      repeat' first
      | (with_reducible exact ih0 _ _ _)
      | (with_reducible exact ih1 _ _ _ _ _ _ _ _ _)
      | (with_reducible exact ih2 _ _ _)
      | (with_reducible exact ih3 _ _ _ _)
      | (with_reducible exact ih4 _ _ _ _)
      | (with_reducible exact larderref04_placed.mono _ _ _ _)
      | (with_reducible exact larderref04_quoted.mono _ _ _)
      | (with_reducible exact LeO.refl _)
      | (with_reducible exact LeO.none _)
      | (with_reducible refine LeO.ite ?_ ?_)
      | (with_reducible refine LeO.bind ?_ (fun _ => ?_))
      | exact ih0 _ _ _
      | exact ih1 _ _ _ _ _ _ _ _ _
      | exact ih2 _ _ _
      | exact ih3 _ _ _ _
      | exact ih4 _ _ _ _
      | exact larderref04_placed.mono _ _ _ _
      | exact larderref04_quoted.mono _ _ _
      | exact LeO.none _
      | refine LeO.ite ?_ ?_
      | refine LeO.bind ?_ (fun _ => ?_)
    · intro y0 y1 y2 y3
      unfold larderref04_cell.j3
      repeat' first
      | (with_reducible exact ih0 _ _ _)
      | (with_reducible exact ih1 _ _ _ _ _ _ _ _ _)
      | (with_reducible exact ih2 _ _ _)
      | (with_reducible exact ih3 _ _ _ _)
      | (with_reducible exact ih4 _ _ _ _)
      | (with_reducible exact larderref04_placed.mono _ _ _ _)
      | (with_reducible exact larderref04_quoted.mono _ _ _)
      | (with_reducible exact LeO.refl _)
      | (with_reducible exact LeO.none _)
      | (with_reducible refine LeO.ite ?_ ?_)
      | (with_reducible refine LeO.bind ?_ (fun _ => ?_))
      | exact ih0 _ _ _
      | exact ih1 _ _ _ _ _ _ _ _ _
      | exact ih2 _ _ _
      | exact ih3 _ _ _ _
      | exact ih4 _ _ _ _
      | exact larderref04_placed.mono _ _ _ _
      | exact larderref04_quoted.mono _ _ _
      | exact LeO.none _
      | refine LeO.ite ?_ ?_
      | refine LeO.bind ?_ (fun _ => ?_)
    · intro y0 y1 y2 y3
      unfold larderref04_cell.j4
      repeat' first
      | (with_reducible exact ih0 _ _ _)
      | (with_reducible exact ih1 _ _ _ _ _ _ _ _ _)
      | (with_reducible exact ih2 _ _ _)
      | (with_reducible exact ih3 _ _ _ _)
      | (with_reducible exact ih4 _ _ _ _)
      | (with_reducible exact larderref04_placed.mono _ _ _ _)
      | (with_reducible exact larderref04_quoted.mono _ _ _)
      | (with_reducible exact LeO.refl _)
      | (with_reducible exact LeO.none _)
      | (with_reducible refine LeO.ite ?_ ?_)
      | (with_reducible refine LeO.bind ?_ (fun _ => ?_))
      | exact ih0 _ _ _
      | exact ih1 _ _ _ _ _ _ _ _ _
      | exact ih2 _ _ _
      | exact ih3 _ _ _ _
      | exact ih4 _ _ _ _
      | exact larderref04_placed.mono _ _ _ _
      | exact larderref04_quoted.mono _ _ _
      | exact LeO.none _
      | refine LeO.ite ?_ ?_
      | refine LeO.bind ?_ (fun _ => ?_)
theorem larderref04_cell.mono : ∀ a0 a1 k, LeO (larderref04_cell.f k a0 a1) (larderref04_cell.f (k + 1) a0 a1) := by
  intro a0 a1 k
  obtain ⟨ih0, ih1, ih2, ih3, ih4⟩ := larderref04_cell.mono_l k
  unfold larderref04_cell.f
  repeat' first
      | (with_reducible exact ih0 _ _ _)
      | (with_reducible exact ih1 _ _ _ _ _ _ _ _ _)
      | (with_reducible exact ih2 _ _ _)
      | (with_reducible exact ih3 _ _ _ _)
      | (with_reducible exact ih4 _ _ _ _)
      | (with_reducible exact larderref04_placed.mono _ _ _ _)
      | (with_reducible exact larderref04_quoted.mono _ _ _)
      | (with_reducible exact LeO.refl _)
      | (with_reducible exact LeO.none _)
      | (with_reducible refine LeO.ite ?_ ?_)
      | (with_reducible refine LeO.bind ?_ (fun _ => ?_))
      | exact ih0 _ _ _
      | exact ih1 _ _ _ _ _ _ _ _ _
      | exact ih2 _ _ _
      | exact ih3 _ _ _ _
      | exact ih4 _ _ _ _
      | exact larderref04_placed.mono _ _ _ _
      | exact larderref04_quoted.mono _ _ _
      | exact LeO.none _
      | refine LeO.ite ?_ ?_
      | refine LeO.bind ?_ (fun _ => ?_)
set_option maxHeartbeats 8000000 in
set_option maxRecDepth 100000 in
theorem larderref04_cell.calls (k : Nat) (a0 : ByteArray) (a1 : Int) (r1 : ByteArray) (r2 : Int) (r3 : Int) (r4 : Int) (r5 : Int) (r6 : Int) (r7 : Int) (w : World) (h : larderref04_cell.f k a0 a1 = some (r1, r2, r3, r4, r5, r6, r7)) :
    Calls Tryz.prog 104 #[.string a0, .int .i64 a1] w fun e w' => e = .returned (.tuple #[.string r1, .int .i64 r2, .agg #[.int .i64 r3, .int .i64 r4, .int .i64 r5, .int .i64 r6, .int .i64 r7]]) ∧ Below w.heap.size w w' := by
  have hu46 := Tryz.underlying46
  have HB := Aside0.mk (Below.refl w.heap.size w)
  have H : (if a1 < (a0.size : Int) then (if 0 ≤ a1 then (larderref04_cell.j0 k a0 a1 ((bt a0 a1) == 34)) else (none)) else (larderref04_cell.j0 k a0 a1 false)) = some (r1, r2, r3, r4, r5, r6, r7) := h
  clear h
  have HC3 := Aside0.mk H
  clear H
  go_enter Tryz.func104, Tryz.ntmps104
  go_upto_region 1 with (first | ((with_reducible refine gate_dst (N := 6) rfl ?_); refine box_event ?hg (N := 6) ?hd (cs := #[.int .i64 0, .int .i64 0, .int .i64 0, .int .i64 0, .int .i64 0]) (t := 46) ?hr ?_; (case hd => rfl); (case hg => rfl); (case hr => first | (go_simp; done) | (go_simp; rfl)); intro gb1040101 hg w4 hbox hb; have n0_ := Aside0.mk (below_step (by repeat (first | (with_reducible first | exact HB.out | apply below_alloc | apply pw_below_drewN | apply below_drew1) | exact HB.out)) hb); have n1_ := Aside0.mk (hbox); have n2_ := Aside0.mk ((by rw [hg]; exact (below_size (by repeat (first | (with_reducible first | exact HB.out | apply below_alloc | apply pw_below_drewN | apply below_drew1) | exact HB.out))) : w.heap.size ≤ gb1040101)); have n3_ := Aside0.mk ((by rw [hg]; exact (below_size (by repeat (first | (with_reducible first | exact HB.out | apply below_alloc | apply pw_below_drewN | apply below_drew1) | exact HB.out))) : w.heap.size ≤ gb1040101)); clear HB; have HB := n0_; have BK1040101 := n1_; have GW1040101 := n2_; have GE1040101 := n3_; clear n0_ n1_ n2_ n3_; clear hb hbox hg))
  (try simp only [Act.put, List.setIfInBounds_toArray, List.set_cons_zero, List.set_cons_succ])
  go_cut [20] (fun v20 wc => ∃ (kq : Nat) (x20_2 : Bool), v20 = .bool x20_2 ∧ Aside0 (larderref04_cell.j0 kq a0 a1 x20_2 = some (r1, r2, r3, r4, r5, r6, r7)) ∧ Aside0 (kq ≤ k) ∧ Aside0 (wc.heap[gb1040101]? = some (.cells #[.int .i64 0, .int .i64 0, .int .i64 0, .int .i64 0, .int .i64 0] 46 (0, 0))) ∧ Aside0 (Below w.heap.size w wc))
  case first =>
    have H := HC3.out
    clear HC3
    by_cases c5 : a1 < (a0.size : Int)
    · rw [if_pos c5] at H
      have c5b0 : decide (a1 < (a0.size : Int)) = true := decide_eq_true c5
      clear c5
      (first | rw [c5b0] | (simp only [i64_w, i32_w]; rw [c5b0]) | skip)
      by_cases c6 : 0 ≤ a1
      · rw [if_pos c6] at H
        have c6b0 : decide (0 ≤ a1) = true := decide_eq_true c6
        clear c6
        have H' := Aside0.mk H
        clear H
        have p7 : 0 ≤ (a1 : Int) := of_decide_eq_true (by first | (with_reducible assumption) | assumption)
        have q7 : a1 < (a0.size : Int) := of_decide_eq_true (by first | (with_reducible assumption) | assumption)
        have hx7 := bt_at a0 a1
        replace p7 := eq_true p7
        replace q7 := eq_true q7
        go_wp2
        go_meet
        case rel => exact ⟨_, (((bt a0 a1) == 34)), (by first | rfl | (simp; done) | (simp [*]; done)), H', ⟨by first | omega | exact Nat.le_refl _⟩, ⟨by (with_reducible repeat (first | refine blk_drewN ?_ _ | refine blk_drew ?_ | refine blk_alloc ?_ _)); exact BK1040101.out⟩, ⟨by repeat (first | (with_reducible first | exact HB.out | apply below_alloc | apply pw_below_drewN | apply below_drew1 | refine below_set ?_ GE1040101.out) | exact HB.out)⟩⟩
      · rw [if_neg c6] at H
        exact absurd H (by simp)
    · rw [if_neg c5] at H
      have c5b0 : decide (a1 < (a0.size : Int)) = false := decide_eq_false c5
      clear c5
      (first | rw [c5b0] | (simp only [i64_w, i32_w]; rw [c5b0]) | skip)
      have H' := Aside0.mk H
      clear H
      go_wp2
      go_meet
      case rel => exact ⟨_, (false), (by first | rfl | (simp; done) | (simp [*]; done)), H', ⟨by first | omega | exact Nat.le_refl _⟩, ⟨by (with_reducible repeat (first | refine blk_drewN ?_ _ | refine blk_drew ?_ | refine blk_alloc ?_ _)); exact BK1040101.out⟩, ⟨by repeat (first | (with_reducible first | exact HB.out | apply below_alloc | apply pw_below_drewN | apply below_drew1 | refine below_set ?_ GE1040101.out) | exact HB.out)⟩⟩
  case rest =>
    clear HC3
    try clear c1
    try clear p2
    try clear c5
    try clear c5b0
    try clear c6
    try clear c6b0
    try clear p7
    try clear q7
    try clear hx7
    try clear p7
    try clear q7
    obtain ⟨kq, x20_2, rfl, HA, HJ2, BK1040101, HB⟩ := hcut
    cases kq with
    | zero => exact absurd HA.out (by simp [larderref04_cell.j0])
    | succ kj2 =>
      have H := HA.out
      clear HA
      simp only [larderref04_cell.j0] at H
      by_cases c8 : x20_2 = true
      · subst c8
        have H1 : ((larderref04_quoted.f kj2 a0 a1).bind fun bt1040102 => (if bt1040102.2.2.1 = 0 then (if bt1040102.2.1 = (a0.size : Int) then (larderref04_cell.j1 kj2 a0 bt1040102.1 bt1040102.2.1 true bt1040102.2.2.1 bt1040102.2.2.2.1 bt1040102.2.2.2.2.1 bt1040102.2.2.2.2.2.1 bt1040102.2.2.2.2.2.2) else (if 0 ≤ bt1040102.2.1 then (if bt1040102.2.1 < (a0.size : Int) then (if (bt a0 bt1040102.2.1) = 44 then (larderref04_cell.j1 kj2 a0 bt1040102.1 bt1040102.2.1 true bt1040102.2.2.1 bt1040102.2.2.2.1 bt1040102.2.2.2.2.1 bt1040102.2.2.2.2.2.1 bt1040102.2.2.2.2.2.2) else (larderref04_cell.j1 kj2 a0 bt1040102.1 bt1040102.2.1 ((bt a0 bt1040102.2.1) == 13) bt1040102.2.2.1 bt1040102.2.2.2.1 bt1040102.2.2.2.2.1 bt1040102.2.2.2.2.2.1 bt1040102.2.2.2.2.2.2)) else (none)) else (none))) else (larderref04_cell.j1 kj2 a0 bt1040102.1 bt1040102.2.1 true bt1040102.2.2.1 bt1040102.2.2.2.1 bt1040102.2.2.2.2.1 bt1040102.2.2.2.2.2.1 bt1040102.2.2.2.2.2.2))) = some (r1, r2, r3, r4, r5, r6, r7) := by rw [if_pos rfl] at H; exact H
        clear H
        have H := H1
        clear H1
        replace H := Option.bind_eq_some_iff.mp H
        obtain ⟨⟨t1040102, t1040103, t1040104, t1040105, t1040106, t1040107, t1040108⟩, A90, H⟩ := H
        replace H : (if t1040104 = 0 then (if t1040103 = (a0.size : Int) then (larderref04_cell.j1 kj2 a0 t1040102 t1040103 true t1040104 t1040105 t1040106 t1040107 t1040108) else (if 0 ≤ t1040103 then (if t1040103 < (a0.size : Int) then (if (bt a0 t1040103) = 44 then (larderref04_cell.j1 kj2 a0 t1040102 t1040103 true t1040104 t1040105 t1040106 t1040107 t1040108) else (larderref04_cell.j1 kj2 a0 t1040102 t1040103 ((bt a0 t1040103) == 13) t1040104 t1040105 t1040106 t1040107 t1040108)) else (none)) else (none))) else (larderref04_cell.j1 kj2 a0 t1040102 t1040103 true t1040104 t1040105 t1040106 t1040107 t1040108)) = some (r1, r2, r3, r4, r5, r6, r7) := H
        have A9 := Aside0.mk A90
        clear A90
        have HC10 := Aside0.mk H
        clear H
        go_upto_region 3 with (first | ((with_reducible refine gate_callee (f := 114) rfl ?_); refine goesL_ (some 24) rfl rfl Tryz.func114 (by kernel_rfl) rfl #[.string a0, .int .i64 a1] rfl (by (try simp only [List.map_toArray, List.map_cons, List.map_nil]); first | done | rfl | (simp only [List.length_drop, List.length_take]; rfl)) ?_; (with_reducible refine (larderref04_quoted.calls kj2 a0 a1 t1040102 t1040103 t1040104 t1040105 t1040106 t1040107 t1040108 _ A9.out).mono ?_); rintro e w11 ⟨rfl, hb⟩; refine ⟨_, rfl, ?_⟩; have n0_ := Aside0.mk (blk_below (g := gb1040101) (o := .cells #[.int .i64 0, .int .i64 0, .int .i64 0, .int .i64 0, .int .i64 0] 46 (0, 0)) (by (with_reducible repeat (first | refine blk_drewN ?_ _ | refine blk_drew ?_ | refine blk_alloc ?_ _)); exact BK1040101.out) hb); have n1_ := Aside0.mk (below_step (by repeat (first | (with_reducible first | exact HB.out | apply below_alloc | apply pw_below_drewN | apply below_drew1 | refine below_set ?_ GE1040101.out) | exact HB.out)) hb); clear BK1040101; clear HB; have BK1040101 := n0_; have HB := n1_; clear n0_ n1_; (try clear hb); (try clear hb2); (try clear hk); (try clear hi)) | ((with_reducible refine gate_dst (N := 9) rfl ?_); refine box_event ?hg (N := 9) ?hd (cs := #[.int .i64 0, .int .i64 0, .int .i64 0, .int .i64 0, .int .i64 0]) (t := 46) ?hr ?_; (case hd => rfl); (case hg => rfl); (case hr => first | (go_simp; done) | (go_simp; rfl)); intro gb1040109 hg w12 hbox hb; have n0_ := Aside0.mk (blk_below (g := gb1040101) (o := .cells #[.int .i64 0, .int .i64 0, .int .i64 0, .int .i64 0, .int .i64 0] 46 (0, 0)) (by (with_reducible repeat (first | refine blk_drewN ?_ _ | refine blk_drew ?_ | refine blk_alloc ?_ _)); exact BK1040101.out) hb); have n1_ := Aside0.mk (below_step (by repeat (first | (with_reducible first | exact HB.out | apply below_alloc | apply pw_below_drewN | apply below_drew1 | refine below_set ?_ GE1040101.out) | exact HB.out)) hb); have n2_ := Aside0.mk (hbox); have n3_ := Aside0.mk ((by rw [hg]; exact (below_size (by repeat (first | (with_reducible first | exact HB.out | apply below_alloc | apply pw_below_drewN | apply below_drew1 | refine below_set ?_ GE1040101.out) | exact HB.out))) : w.heap.size ≤ gb1040109)); have n4_ := Aside0.mk ((by rw [hg]; exact (below_size (by repeat (first | (with_reducible first | exact HB.out | apply below_alloc | apply pw_below_drewN | apply below_drew1 | refine below_set ?_ GE1040101.out) | exact HB.out))) : w.heap.size ≤ gb1040109)); have n5_ := Aside0.mk ((by rw [hg]; exact Nat.ne_of_lt (blk_lt (g := gb1040101) (o := .cells #[.int .i64 0, .int .i64 0, .int .i64 0, .int .i64 0, .int .i64 0] 46 (0, 0)) (by (with_reducible repeat (first | refine blk_drewN ?_ _ | refine blk_drew ?_ | refine blk_alloc ?_ _)); exact BK1040101.out)) : gb1040101 ≠ gb1040109)); have n6_ := Aside0.mk ((by rw [hg]; exact Nat.ne_of_gt (blk_lt (g := gb1040101) (o := .cells #[.int .i64 0, .int .i64 0, .int .i64 0, .int .i64 0, .int .i64 0] 46 (0, 0)) (by (with_reducible repeat (first | refine blk_drewN ?_ _ | refine blk_drew ?_ | refine blk_alloc ?_ _)); exact BK1040101.out)) : gb1040109 ≠ gb1040101)); clear BK1040101; clear HB; have BK1040101 := n0_; have HB := n1_; have BK1040109 := n2_; have GW1040109 := n3_; have GE1040109 := n4_; have NB1040101_1040109 := n5_; have NB1040109_1040101 := n6_; clear n0_ n1_ n2_ n3_ n4_ n5_ n6_; clear hb hbox hg; have hnb13 := NB1040109_1040101.out; have hnc13 := NB1040101_1040109.out; have hcz14_0 : w12.cell? ⟨gb1040109, 0, none⟩ = some (.int .i64 0) := (blk_cell BK1040109.out 0).trans rfl; have hcz14_1 : w12.cell? ⟨gb1040109, 1, none⟩ = some (.int .i64 0) := (blk_cell BK1040109.out 1).trans rfl; have hcz14_2 : w12.cell? ⟨gb1040109, 2, none⟩ = some (.int .i64 0) := (blk_cell BK1040109.out 2).trans rfl; have hcz14_3 : w12.cell? ⟨gb1040109, 3, none⟩ = some (.int .i64 0) := (blk_cell BK1040109.out 3).trans rfl; have hcz14_4 : w12.cell? ⟨gb1040109, 4, none⟩ = some (.int .i64 0) := (blk_cell BK1040109.out 4).trans rfl; have hfz14_0 := blk_frozen BK1040109.out 0; have hfz14_1 := blk_frozen BK1040109.out 1; have hfz14_2 := blk_frozen BK1040109.out 2; have hfz14_3 := blk_frozen BK1040109.out 3; have hfz14_4 := blk_frozen BK1040109.out 4))
        (try simp only [Act.put, List.setIfInBounds_toArray, List.set_cons_zero, List.set_cons_succ])
        go_cut [48] (fun v48 wc => ∃ (kq : Nat) (x48_9 : Bool), v48 = .bool x48_9 ∧ Aside0 (larderref04_cell.j1 kq a0 t1040102 t1040103 x48_9 t1040104 t1040105 t1040106 t1040107 t1040108 = some (r1, r2, r3, r4, r5, r6, r7)) ∧ Aside0 (kq ≤ kj2) ∧ Aside0 (wc.heap[gb1040101]? = some (.cells #[.int .i64 0, .int .i64 0, .int .i64 0, .int .i64 0, .int .i64 0] 46 (0, 0))) ∧ Aside0 (wc.heap[gb1040109]? = some (.cells #[.int .i64 t1040104, .int .i64 t1040105, .int .i64 t1040106, .int .i64 t1040107, .int .i64 t1040108] 46 (0, 0))) ∧ Aside0 (Below w.heap.size w wc))
        case first =>
          have H := HC10.out
          clear HC10
          by_cases c15 : t1040104 = 0
          · rw [if_pos c15] at H
            have c15b0 : (t1040104 == 0) = true := beq_iff_eq.mpr c15
            have c15b1 : (t1040104 != 0) = false := bne_eq_false_iff_eq.mpr c15
            clear c15
            (first | rw [c15b0] | (simp only [i64_w, i32_w]; rw [c15b0]) | skip)
            by_cases c16 : t1040103 = (a0.size : Int)
            · rw [if_pos c16] at H
              have c16b0 : (t1040103 == (a0.size : Int)) = true := beq_iff_eq.mpr c16
              have c16b1 : (t1040103 != (a0.size : Int)) = false := bne_eq_false_iff_eq.mpr c16
              clear c16
              have H' := Aside0.mk H
              clear H
              have hnb17 := NB1040109_1040101.out
              have hnc17 := NB1040101_1040109.out
              have hcz18_0 : w12.cell? ⟨gb1040109, 0, none⟩ = some (.int .i64 0) := (blk_cell BK1040109.out 0).trans rfl
              have hcz18_1 : w12.cell? ⟨gb1040109, 1, none⟩ = some (.int .i64 0) := (blk_cell BK1040109.out 1).trans rfl
              have hcz18_2 : w12.cell? ⟨gb1040109, 2, none⟩ = some (.int .i64 0) := (blk_cell BK1040109.out 2).trans rfl
              have hcz18_3 : w12.cell? ⟨gb1040109, 3, none⟩ = some (.int .i64 0) := (blk_cell BK1040109.out 3).trans rfl
              have hcz18_4 : w12.cell? ⟨gb1040109, 4, none⟩ = some (.int .i64 0) := (blk_cell BK1040109.out 4).trans rfl
              have hfz18_0 := blk_frozen BK1040109.out 0
              have hfz18_1 := blk_frozen BK1040109.out 1
              have hfz18_2 := blk_frozen BK1040109.out 2
              have hfz18_3 := blk_frozen BK1040109.out 3
              have hfz18_4 := blk_frozen BK1040109.out 4
              go_wp2
              go_meet
              case rel => exact ⟨_, (true), (by first | rfl | (simp; done) | (simp [*]; done)), H', ⟨by have := HJ2.out; first | omega | exact Nat.le_refl _⟩, ⟨by (with_reducible repeat (first | refine blk_drewN ?_ _ | refine blk_drew ?_ | refine blk_alloc ?_ _)); refine blk_far ?_ NB1040101_1040109.out _; (with_reducible repeat (first | refine blk_drewN ?_ _ | refine blk_drew ?_ | refine blk_alloc ?_ _)); refine blk_far ?_ NB1040101_1040109.out _; (with_reducible repeat (first | refine blk_drewN ?_ _ | refine blk_drew ?_ | refine blk_alloc ?_ _)); refine blk_far ?_ NB1040101_1040109.out _; (with_reducible repeat (first | refine blk_drewN ?_ _ | refine blk_drew ?_ | refine blk_alloc ?_ _)); refine blk_far ?_ NB1040101_1040109.out _; (with_reducible repeat (first | refine blk_drewN ?_ _ | refine blk_drew ?_ | refine blk_alloc ?_ _)); refine blk_far ?_ NB1040101_1040109.out _; (with_reducible repeat (first | refine blk_drewN ?_ _ | refine blk_drew ?_ | refine blk_alloc ?_ _)); exact BK1040101.out⟩, ⟨by (with_reducible repeat (first | refine blk_drewN ?_ _ | refine blk_drew ?_ | refine blk_alloc ?_ _)); refine blk_put (cs := #[.int .i64 t1040104, .int .i64 t1040105, .int .i64 t1040106, .int .i64 t1040107, .int .i64 0]) ?_ 4 _ rfl; (with_reducible repeat (first | refine blk_drewN ?_ _ | refine blk_drew ?_ | refine blk_alloc ?_ _)); refine blk_put (cs := #[.int .i64 t1040104, .int .i64 t1040105, .int .i64 t1040106, .int .i64 0, .int .i64 0]) ?_ 3 _ rfl; (with_reducible repeat (first | refine blk_drewN ?_ _ | refine blk_drew ?_ | refine blk_alloc ?_ _)); refine blk_put (cs := #[.int .i64 t1040104, .int .i64 t1040105, .int .i64 0, .int .i64 0, .int .i64 0]) ?_ 2 _ rfl; (with_reducible repeat (first | refine blk_drewN ?_ _ | refine blk_drew ?_ | refine blk_alloc ?_ _)); refine blk_put (cs := #[.int .i64 t1040104, .int .i64 0, .int .i64 0, .int .i64 0, .int .i64 0]) ?_ 1 _ rfl; (with_reducible repeat (first | refine blk_drewN ?_ _ | refine blk_drew ?_ | refine blk_alloc ?_ _)); refine blk_put (cs := #[.int .i64 0, .int .i64 0, .int .i64 0, .int .i64 0, .int .i64 0]) ?_ 0 _ rfl; (with_reducible repeat (first | refine blk_drewN ?_ _ | refine blk_drew ?_ | refine blk_alloc ?_ _)); exact BK1040109.out⟩, ⟨by repeat (first | (with_reducible first | exact HB.out | apply below_alloc | apply pw_below_drewN | apply below_drew1 | refine below_set ?_ GE1040101.out | refine below_set ?_ GE1040109.out) | exact HB.out)⟩⟩
            · rw [if_neg c16] at H
              have c16b0 : (t1040103 == (a0.size : Int)) = false := beq_eq_false_iff_ne.mpr c16
              have c16b1 : (t1040103 != (a0.size : Int)) = true := bne_iff_ne.mpr c16
              by_cases c19 : 0 ≤ t1040103
              · rw [if_pos c19] at H
                have c19b0 : decide (0 ≤ t1040103) = true := decide_eq_true c19
                clear c19
                by_cases c20 : t1040103 < (a0.size : Int)
                · rw [if_pos c20] at H
                  have c20b0 : decide (t1040103 < (a0.size : Int)) = true := decide_eq_true c20
                  clear c20
                  by_cases c22 : (bt a0 t1040103) = 44
                  · rw [if_pos c22] at H
                    have c22b0 : ((bt a0 t1040103) == 44) = true := beq_iff_eq.mpr c22
                    have c22b1 : ((bt a0 t1040103) != 44) = false := bne_eq_false_iff_eq.mpr c22
                    clear c22
                    have H' := Aside0.mk H
                    clear H
                    have hnb23 := NB1040109_1040101.out
                    have hnc23 := NB1040101_1040109.out
                    have hcz24_0 : w12.cell? ⟨gb1040109, 0, none⟩ = some (.int .i64 0) := (blk_cell BK1040109.out 0).trans rfl
                    have hcz24_1 : w12.cell? ⟨gb1040109, 1, none⟩ = some (.int .i64 0) := (blk_cell BK1040109.out 1).trans rfl
                    have hcz24_2 : w12.cell? ⟨gb1040109, 2, none⟩ = some (.int .i64 0) := (blk_cell BK1040109.out 2).trans rfl
                    have hcz24_3 : w12.cell? ⟨gb1040109, 3, none⟩ = some (.int .i64 0) := (blk_cell BK1040109.out 3).trans rfl
                    have hcz24_4 : w12.cell? ⟨gb1040109, 4, none⟩ = some (.int .i64 0) := (blk_cell BK1040109.out 4).trans rfl
                    have hfz24_0 := blk_frozen BK1040109.out 0
                    have hfz24_1 := blk_frozen BK1040109.out 1
                    have hfz24_2 := blk_frozen BK1040109.out 2
                    have hfz24_3 := blk_frozen BK1040109.out 3
                    have hfz24_4 := blk_frozen BK1040109.out 4
                    have p21 : 0 ≤ (t1040103 : Int) := of_decide_eq_true (by first | (with_reducible assumption) | assumption)
                    have q21 : t1040103 < (a0.size : Int) := of_decide_eq_true (by first | (with_reducible assumption) | assumption)
                    have hx21 := bt_at a0 t1040103
                    replace p21 := eq_true p21
                    replace q21 := eq_true q21
                    go_wp2
                    go_meet
                    case rel => exact ⟨_, (true), (by first | rfl | (simp; done) | (simp [*]; done)), H', ⟨by have := HJ2.out; first | omega | exact Nat.le_refl _⟩, ⟨by (with_reducible repeat (first | refine blk_drewN ?_ _ | refine blk_drew ?_ | refine blk_alloc ?_ _)); refine blk_far ?_ NB1040101_1040109.out _; (with_reducible repeat (first | refine blk_drewN ?_ _ | refine blk_drew ?_ | refine blk_alloc ?_ _)); refine blk_far ?_ NB1040101_1040109.out _; (with_reducible repeat (first | refine blk_drewN ?_ _ | refine blk_drew ?_ | refine blk_alloc ?_ _)); refine blk_far ?_ NB1040101_1040109.out _; (with_reducible repeat (first | refine blk_drewN ?_ _ | refine blk_drew ?_ | refine blk_alloc ?_ _)); refine blk_far ?_ NB1040101_1040109.out _; (with_reducible repeat (first | refine blk_drewN ?_ _ | refine blk_drew ?_ | refine blk_alloc ?_ _)); refine blk_far ?_ NB1040101_1040109.out _; (with_reducible repeat (first | refine blk_drewN ?_ _ | refine blk_drew ?_ | refine blk_alloc ?_ _)); exact BK1040101.out⟩, ⟨by (with_reducible repeat (first | refine blk_drewN ?_ _ | refine blk_drew ?_ | refine blk_alloc ?_ _)); refine blk_put (cs := #[.int .i64 t1040104, .int .i64 t1040105, .int .i64 t1040106, .int .i64 t1040107, .int .i64 0]) ?_ 4 _ rfl; (with_reducible repeat (first | refine blk_drewN ?_ _ | refine blk_drew ?_ | refine blk_alloc ?_ _)); refine blk_put (cs := #[.int .i64 t1040104, .int .i64 t1040105, .int .i64 t1040106, .int .i64 0, .int .i64 0]) ?_ 3 _ rfl; (with_reducible repeat (first | refine blk_drewN ?_ _ | refine blk_drew ?_ | refine blk_alloc ?_ _)); refine blk_put (cs := #[.int .i64 t1040104, .int .i64 t1040105, .int .i64 0, .int .i64 0, .int .i64 0]) ?_ 2 _ rfl; (with_reducible repeat (first | refine blk_drewN ?_ _ | refine blk_drew ?_ | refine blk_alloc ?_ _)); refine blk_put (cs := #[.int .i64 t1040104, .int .i64 0, .int .i64 0, .int .i64 0, .int .i64 0]) ?_ 1 _ rfl; (with_reducible repeat (first | refine blk_drewN ?_ _ | refine blk_drew ?_ | refine blk_alloc ?_ _)); refine blk_put (cs := #[.int .i64 0, .int .i64 0, .int .i64 0, .int .i64 0, .int .i64 0]) ?_ 0 _ rfl; (with_reducible repeat (first | refine blk_drewN ?_ _ | refine blk_drew ?_ | refine blk_alloc ?_ _)); exact BK1040109.out⟩, ⟨by repeat (first | (with_reducible first | exact HB.out | apply below_alloc | apply pw_below_drewN | apply below_drew1 | refine below_set ?_ GE1040101.out | refine below_set ?_ GE1040109.out) | exact HB.out)⟩⟩
                  · rw [if_neg c22] at H
                    have c22b0 : ((bt a0 t1040103) == 44) = false := beq_eq_false_iff_ne.mpr c22
                    have c22b1 : ((bt a0 t1040103) != 44) = true := bne_iff_ne.mpr c22
                    have H' := Aside0.mk H
                    clear H
                    have hnb26 := NB1040109_1040101.out
                    have hnc26 := NB1040101_1040109.out
                    have hcz27_0 : w12.cell? ⟨gb1040109, 0, none⟩ = some (.int .i64 0) := (blk_cell BK1040109.out 0).trans rfl
                    have hcz27_1 : w12.cell? ⟨gb1040109, 1, none⟩ = some (.int .i64 0) := (blk_cell BK1040109.out 1).trans rfl
                    have hcz27_2 : w12.cell? ⟨gb1040109, 2, none⟩ = some (.int .i64 0) := (blk_cell BK1040109.out 2).trans rfl
                    have hcz27_3 : w12.cell? ⟨gb1040109, 3, none⟩ = some (.int .i64 0) := (blk_cell BK1040109.out 3).trans rfl
                    have hcz27_4 : w12.cell? ⟨gb1040109, 4, none⟩ = some (.int .i64 0) := (blk_cell BK1040109.out 4).trans rfl
                    have hfz27_0 := blk_frozen BK1040109.out 0
                    have hfz27_1 := blk_frozen BK1040109.out 1
                    have hfz27_2 := blk_frozen BK1040109.out 2
                    have hfz27_3 := blk_frozen BK1040109.out 3
                    have hfz27_4 := blk_frozen BK1040109.out 4
                    have p21 : 0 ≤ (t1040103 : Int) := of_decide_eq_true (by first | (with_reducible assumption) | assumption)
                    have q21 : t1040103 < (a0.size : Int) := of_decide_eq_true (by first | (with_reducible assumption) | assumption)
                    have hx21 := bt_at a0 t1040103
                    replace p21 := eq_true p21
                    replace q21 := eq_true q21
                    have p25 : 0 ≤ (t1040103 : Int) := of_decide_eq_true (by first | (with_reducible assumption) | assumption)
                    have q25 : t1040103 < (a0.size : Int) := of_decide_eq_true (by first | (with_reducible assumption) | assumption)
                    have hx25 := bt_at a0 t1040103
                    replace p25 := eq_true p25
                    replace q25 := eq_true q25
                    go_wp2
                    go_meet
                    case rel => exact ⟨_, (((bt a0 t1040103) == 13)), (by first | rfl | (simp; done) | (simp [*]; done)), H', ⟨by have := HJ2.out; first | omega | exact Nat.le_refl _⟩, ⟨by (with_reducible repeat (first | refine blk_drewN ?_ _ | refine blk_drew ?_ | refine blk_alloc ?_ _)); refine blk_far ?_ NB1040101_1040109.out _; (with_reducible repeat (first | refine blk_drewN ?_ _ | refine blk_drew ?_ | refine blk_alloc ?_ _)); refine blk_far ?_ NB1040101_1040109.out _; (with_reducible repeat (first | refine blk_drewN ?_ _ | refine blk_drew ?_ | refine blk_alloc ?_ _)); refine blk_far ?_ NB1040101_1040109.out _; (with_reducible repeat (first | refine blk_drewN ?_ _ | refine blk_drew ?_ | refine blk_alloc ?_ _)); refine blk_far ?_ NB1040101_1040109.out _; (with_reducible repeat (first | refine blk_drewN ?_ _ | refine blk_drew ?_ | refine blk_alloc ?_ _)); refine blk_far ?_ NB1040101_1040109.out _; (with_reducible repeat (first | refine blk_drewN ?_ _ | refine blk_drew ?_ | refine blk_alloc ?_ _)); exact BK1040101.out⟩, ⟨by (with_reducible repeat (first | refine blk_drewN ?_ _ | refine blk_drew ?_ | refine blk_alloc ?_ _)); refine blk_put (cs := #[.int .i64 t1040104, .int .i64 t1040105, .int .i64 t1040106, .int .i64 t1040107, .int .i64 0]) ?_ 4 _ rfl; (with_reducible repeat (first | refine blk_drewN ?_ _ | refine blk_drew ?_ | refine blk_alloc ?_ _)); refine blk_put (cs := #[.int .i64 t1040104, .int .i64 t1040105, .int .i64 t1040106, .int .i64 0, .int .i64 0]) ?_ 3 _ rfl; (with_reducible repeat (first | refine blk_drewN ?_ _ | refine blk_drew ?_ | refine blk_alloc ?_ _)); refine blk_put (cs := #[.int .i64 t1040104, .int .i64 t1040105, .int .i64 0, .int .i64 0, .int .i64 0]) ?_ 2 _ rfl; (with_reducible repeat (first | refine blk_drewN ?_ _ | refine blk_drew ?_ | refine blk_alloc ?_ _)); refine blk_put (cs := #[.int .i64 t1040104, .int .i64 0, .int .i64 0, .int .i64 0, .int .i64 0]) ?_ 1 _ rfl; (with_reducible repeat (first | refine blk_drewN ?_ _ | refine blk_drew ?_ | refine blk_alloc ?_ _)); refine blk_put (cs := #[.int .i64 0, .int .i64 0, .int .i64 0, .int .i64 0, .int .i64 0]) ?_ 0 _ rfl; (with_reducible repeat (first | refine blk_drewN ?_ _ | refine blk_drew ?_ | refine blk_alloc ?_ _)); exact BK1040109.out⟩, ⟨by repeat (first | (with_reducible first | exact HB.out | apply below_alloc | apply pw_below_drewN | apply below_drew1 | refine below_set ?_ GE1040101.out | refine below_set ?_ GE1040109.out) | exact HB.out)⟩⟩
                · rw [if_neg c20] at H
                  exact absurd H (by simp)
              · rw [if_neg c19] at H
                exact absurd H (by simp)
          · rw [if_neg c15] at H
            have c15b0 : (t1040104 == 0) = false := beq_eq_false_iff_ne.mpr c15
            have c15b1 : (t1040104 != 0) = true := bne_iff_ne.mpr c15
            (first | rw [c15b0] | (simp only [i64_w, i32_w]; rw [c15b0]) | skip)
            have H' := Aside0.mk H
            clear H
            have hnb28 := NB1040109_1040101.out
            have hnc28 := NB1040101_1040109.out
            have hcz29_0 : w12.cell? ⟨gb1040109, 0, none⟩ = some (.int .i64 0) := (blk_cell BK1040109.out 0).trans rfl
            have hcz29_1 : w12.cell? ⟨gb1040109, 1, none⟩ = some (.int .i64 0) := (blk_cell BK1040109.out 1).trans rfl
            have hcz29_2 : w12.cell? ⟨gb1040109, 2, none⟩ = some (.int .i64 0) := (blk_cell BK1040109.out 2).trans rfl
            have hcz29_3 : w12.cell? ⟨gb1040109, 3, none⟩ = some (.int .i64 0) := (blk_cell BK1040109.out 3).trans rfl
            have hcz29_4 : w12.cell? ⟨gb1040109, 4, none⟩ = some (.int .i64 0) := (blk_cell BK1040109.out 4).trans rfl
            have hfz29_0 := blk_frozen BK1040109.out 0
            have hfz29_1 := blk_frozen BK1040109.out 1
            have hfz29_2 := blk_frozen BK1040109.out 2
            have hfz29_3 := blk_frozen BK1040109.out 3
            have hfz29_4 := blk_frozen BK1040109.out 4
            go_wp2
            go_meet
            case rel => exact ⟨_, (true), (by first | rfl | (simp; done) | (simp [*]; done)), H', ⟨by have := HJ2.out; first | omega | exact Nat.le_refl _⟩, ⟨by (with_reducible repeat (first | refine blk_drewN ?_ _ | refine blk_drew ?_ | refine blk_alloc ?_ _)); refine blk_far ?_ NB1040101_1040109.out _; (with_reducible repeat (first | refine blk_drewN ?_ _ | refine blk_drew ?_ | refine blk_alloc ?_ _)); refine blk_far ?_ NB1040101_1040109.out _; (with_reducible repeat (first | refine blk_drewN ?_ _ | refine blk_drew ?_ | refine blk_alloc ?_ _)); refine blk_far ?_ NB1040101_1040109.out _; (with_reducible repeat (first | refine blk_drewN ?_ _ | refine blk_drew ?_ | refine blk_alloc ?_ _)); refine blk_far ?_ NB1040101_1040109.out _; (with_reducible repeat (first | refine blk_drewN ?_ _ | refine blk_drew ?_ | refine blk_alloc ?_ _)); refine blk_far ?_ NB1040101_1040109.out _; (with_reducible repeat (first | refine blk_drewN ?_ _ | refine blk_drew ?_ | refine blk_alloc ?_ _)); exact BK1040101.out⟩, ⟨by (with_reducible repeat (first | refine blk_drewN ?_ _ | refine blk_drew ?_ | refine blk_alloc ?_ _)); refine blk_put (cs := #[.int .i64 t1040104, .int .i64 t1040105, .int .i64 t1040106, .int .i64 t1040107, .int .i64 0]) ?_ 4 _ rfl; (with_reducible repeat (first | refine blk_drewN ?_ _ | refine blk_drew ?_ | refine blk_alloc ?_ _)); refine blk_put (cs := #[.int .i64 t1040104, .int .i64 t1040105, .int .i64 t1040106, .int .i64 0, .int .i64 0]) ?_ 3 _ rfl; (with_reducible repeat (first | refine blk_drewN ?_ _ | refine blk_drew ?_ | refine blk_alloc ?_ _)); refine blk_put (cs := #[.int .i64 t1040104, .int .i64 t1040105, .int .i64 0, .int .i64 0, .int .i64 0]) ?_ 2 _ rfl; (with_reducible repeat (first | refine blk_drewN ?_ _ | refine blk_drew ?_ | refine blk_alloc ?_ _)); refine blk_put (cs := #[.int .i64 t1040104, .int .i64 0, .int .i64 0, .int .i64 0, .int .i64 0]) ?_ 1 _ rfl; (with_reducible repeat (first | refine blk_drewN ?_ _ | refine blk_drew ?_ | refine blk_alloc ?_ _)); refine blk_put (cs := #[.int .i64 0, .int .i64 0, .int .i64 0, .int .i64 0, .int .i64 0]) ?_ 0 _ rfl; (with_reducible repeat (first | refine blk_drewN ?_ _ | refine blk_drew ?_ | refine blk_alloc ?_ _)); exact BK1040109.out⟩, ⟨by repeat (first | (with_reducible first | exact HB.out | apply below_alloc | apply pw_below_drewN | apply below_drew1 | refine below_set ?_ GE1040101.out | refine below_set ?_ GE1040109.out) | exact HB.out)⟩⟩
        case rest =>
          clear HC10
          try clear c1
          try clear c2
          try clear p2
          try clear q2
          try clear hx2
          try clear c5
          try clear c5b0
          try clear c6
          try clear c6b0
          try clear p7
          try clear q7
          try clear hx7
          try clear c8
          try clear c10
          try clear c11
          try clear c13
          try clear c15
          try clear c15b0
          try clear c15b1
          try clear c16
          try clear c16b0
          try clear c16b1
          try clear c17
          try clear c19
          try clear c19b0
          try clear c20
          try clear c20b0
          try clear p21
          try clear q21
          try clear hx21
          try clear c22
          try clear c22b0
          try clear c22b1
          try clear c23
          try clear p25
          try clear q25
          try clear hx25
          try clear c26
          try clear c28
          try clear hcz14_0
          try clear hcz14_1
          try clear hcz14_2
          try clear hcz14_3
          try clear hcz14_4
          try clear hcz18_0
          try clear hcz18_1
          try clear hcz18_2
          try clear hcz18_3
          try clear hcz18_4
          try clear hcz24_0
          try clear hcz24_1
          try clear hcz24_2
          try clear hcz24_3
          try clear hcz24_4
          try clear hcz27_0
          try clear hcz27_1
          try clear hcz27_2
          try clear hcz27_3
          try clear hcz27_4
          try clear hcz29_0
          try clear hcz29_1
          try clear hcz29_2
          try clear hcz29_3
          try clear hcz29_4
          try clear hfz14_0
          try clear hfz14_1
          try clear hfz14_2
          try clear hfz14_3
          try clear hfz14_4
          try clear hfz18_0
          try clear hfz18_1
          try clear hfz18_2
          try clear hfz18_3
          try clear hfz18_4
          try clear hfz24_0
          try clear hfz24_1
          try clear hfz24_2
          try clear hfz24_3
          try clear hfz24_4
          try clear hfz27_0
          try clear hfz27_1
          try clear hfz27_2
          try clear hfz27_3
          try clear hfz27_4
          try clear hfz29_0
          try clear hfz29_1
          try clear hfz29_2
          try clear hfz29_3
          try clear hfz29_4
          try clear p2
          try clear p21
          try clear p25
          try clear p7
          try clear q21
          try clear q25
          try clear q7
          obtain ⟨kq, x48_9, rfl, HA, HJ9, BK1040101, BK1040109, HB⟩ := hcut
          cases kq with
          | zero => exact absurd HA.out (by simp [larderref04_cell.j1])
          | succ kj9 =>
            have H := HA.out
            clear HA
            simp only [larderref04_cell.j1] at H
            by_cases c30 : x48_9 = true
            · subst c30
              have H1 : (some (t1040102, t1040103, t1040104, t1040105, t1040106, t1040107, t1040108)) = some (r1, r2, r3, r4, r5, r6, r7) := by rw [if_pos rfl] at H; exact H
              clear H
              have H := H1
              clear H1
              simp only [Option.some.injEq, Prod.mk.injEq] at H
              obtain ⟨rfl, rfl, rfl, rfl, rfl, rfl, rfl⟩ := H
              try go_wp2
              have n0_ := Aside0.mk (blk_drew BK1040101.out)
              have n1_ := Aside0.mk (blk_drew BK1040109.out)
              have n2_ := Aside0.mk (below_drew1 HB.out)
              clear BK1040101
              clear BK1040109
              clear HB
              have BK1040101 := n0_
              have BK1040109 := n1_
              have HB := n2_
              clear n0_ n1_ n2_
              refine start_ (n := 6) (S := fun w' => w'.cell? ⟨gb1040109, 0, none⟩ = some (.int .i64 t1040104) ∧ w'.cell? ⟨gb1040109, 1, none⟩ = some (.int .i64 t1040105) ∧ w'.cell? ⟨gb1040109, 2, none⟩ = some (.int .i64 t1040106) ∧ w'.cell? ⟨gb1040109, 3, none⟩ = some (.int .i64 t1040107) ∧ w'.cell? ⟨gb1040109, 4, none⟩ = some (.int .i64 t1040108)) (ds := []) #[false, false, false, false, false, false] (by kernel_rfl) rfl rfl ⟨(blk_cell BK1040109.out 0).trans rfl, (blk_cell BK1040109.out 1).trans rfl, (blk_cell BK1040109.out 2).trans rfl, (blk_cell BK1040109.out 3).trans rfl, (blk_cell BK1040109.out 4).trans rfl⟩ (fun hHeld => ?_)
              generalize wc.drew = w31 at BK1040101 BK1040109 HB hHeld ⊢
              refine pure_ (i := 0) (N := some 49) (v := ?_) (a' := ?_) #[true, false, false, false, false, false] rfl rfl (by kernel_rfl) (fun _ _ _ h => h) (Or.inl ⟨by rfl, ?_⟩) ?_ ?_
              rotate_left
              · intro w'
                go_simp
                with_reducible rfl
              rotate_left
              · simp only [Act.put, List.setIfInBounds_toArray, List.set_cons_zero, List.set_cons_succ, i64_w, i32_w]
                rfl
              refine pure_ (i := 1) (N := some 50) (v := ?_) (a' := ?_) #[true, true, false, false, false, false] rfl rfl (by kernel_rfl) (fun _ _ _ h => h) (Or.inl ⟨by rfl, ?_⟩) ?_ ?_
              rotate_left
              · intro w'
                go_simp
                with_reducible rfl
              rotate_left
              · simp only [Act.put, List.setIfInBounds_toArray, List.set_cons_zero, List.set_cons_succ, i64_w, i32_w]
                rfl
              refine pure_ (i := 3) (N := some 4) (v := ?_) (a' := ?_) #[true, true, false, true, false, false] rfl rfl (by kernel_rfl) (fun _ _ _ h => h) (Or.inl ⟨by rfl, ?_⟩) ?_ ?_
              rotate_left
              · intro w'
                go_simp
                with_reducible rfl
              rotate_left
              · simp only [Act.put, List.setIfInBounds_toArray, List.set_cons_zero, List.set_cons_succ, i64_w, i32_w]
                rfl
              refine pure_ (i := 4) (N := some 5) (v := ?_) (a' := ?_) #[true, true, false, true, true, false] rfl rfl (by kernel_rfl) (fun _ _ _ h => h) (Or.inl ⟨by rfl, ?_⟩) ?_ ?_
              rotate_left
              · intro w'
                go_simp
                with_reducible rfl
              rotate_left
              · simp only [Act.put, List.setIfInBounds_toArray, List.set_cons_zero, List.set_cons_succ, i64_w, i32_w]
                rfl
              refine take_ (i := 2) (N := some 51) (v := ?_) (a' := ?_) #[true, true, true, true, true, false] rfl rfl (by kernel_rfl) (fun _ _ _ h => h) (Or.inl ⟨by rfl, ?_⟩) hHeld ?_ ?_
              rotate_left
              · rintro w' ⟨s0, s1, s2, s3, s4⟩
                go_simp
                with_reducible rfl
              rotate_left
              · simp only [Act.put, List.setIfInBounds_toArray, List.set_cons_zero, List.set_cons_succ, i64_w, i32_w]
                rfl
              refine one_ (i := 5) (N := none) #[true, true, true, true, true, true] rfl rfl (by kernel_rfl) (by decide) (fun K hK => ?_)
              have hs32 : w31.cell? ⟨gb1040101, 0, none⟩ = some (.int .i64 0) := (blk_cell BK1040101.out 0).trans rfl
              have hfs32 := blk_frozen BK1040101.out 0
              have hns32_1 := NB1040109_1040101.out
              have hms32_1 := NB1040101_1040109.out
              have hs33 : w31.cell? ⟨gb1040101, 1, none⟩ = some (.int .i64 0) := (blk_cell BK1040101.out 1).trans rfl
              have hfs33 := blk_frozen BK1040101.out 1
              have hns33_1 := NB1040109_1040101.out
              have hms33_1 := NB1040101_1040109.out
              have hs34 : w31.cell? ⟨gb1040101, 2, none⟩ = some (.int .i64 0) := (blk_cell BK1040101.out 2).trans rfl
              have hfs34 := blk_frozen BK1040101.out 2
              have hns34_1 := NB1040109_1040101.out
              have hms34_1 := NB1040101_1040109.out
              have hs35 : w31.cell? ⟨gb1040101, 3, none⟩ = some (.int .i64 0) := (blk_cell BK1040101.out 3).trans rfl
              have hfs35 := blk_frozen BK1040101.out 3
              have hns35_1 := NB1040109_1040101.out
              have hms35_1 := NB1040101_1040109.out
              have hs36 : w31.cell? ⟨gb1040101, 4, none⟩ = some (.int .i64 0) := (blk_cell BK1040101.out 4).trans rfl
              have hfs36 := blk_frozen BK1040101.out 4
              have hns36_1 := NB1040109_1040101.out
              have hms36_1 := NB1040101_1040109.out
              refine skip_ (w1 := ?_) (by rfl) rfl ?_ ?_
              rotate_left
              · go_simp
                rfl
              refine hK.out _ _ ⟨((cell_far (p := ⟨gb1040101, _, none⟩) NB1040109_1040101.out _).trans (((cell_far (p := ⟨gb1040101, _, none⟩) NB1040109_1040101.out _).trans (((cell_far (p := ⟨gb1040101, _, none⟩) NB1040109_1040101.out _).trans (((cell_far (p := ⟨gb1040101, _, none⟩) NB1040109_1040101.out _).trans (((cell_far (p := ⟨gb1040101, _, none⟩) NB1040109_1040101.out _).trans (hHeld.1)))))))))), ((cell_far (p := ⟨gb1040101, _, none⟩) NB1040109_1040101.out _).trans (((cell_far (p := ⟨gb1040101, _, none⟩) NB1040109_1040101.out _).trans (((cell_far (p := ⟨gb1040101, _, none⟩) NB1040109_1040101.out _).trans (((cell_far (p := ⟨gb1040101, _, none⟩) NB1040109_1040101.out _).trans (((cell_far (p := ⟨gb1040101, _, none⟩) NB1040109_1040101.out _).trans (hHeld.2.1)))))))))), ((cell_far (p := ⟨gb1040101, _, none⟩) NB1040109_1040101.out _).trans (((cell_far (p := ⟨gb1040101, _, none⟩) NB1040109_1040101.out _).trans (((cell_far (p := ⟨gb1040101, _, none⟩) NB1040109_1040101.out _).trans (((cell_far (p := ⟨gb1040101, _, none⟩) NB1040109_1040101.out _).trans (((cell_far (p := ⟨gb1040101, _, none⟩) NB1040109_1040101.out _).trans (hHeld.2.2.1)))))))))), ((cell_far (p := ⟨gb1040101, _, none⟩) NB1040109_1040101.out _).trans (((cell_far (p := ⟨gb1040101, _, none⟩) NB1040109_1040101.out _).trans (((cell_far (p := ⟨gb1040101, _, none⟩) NB1040109_1040101.out _).trans (((cell_far (p := ⟨gb1040101, _, none⟩) NB1040109_1040101.out _).trans (((cell_far (p := ⟨gb1040101, _, none⟩) NB1040109_1040101.out _).trans (hHeld.2.2.2.1)))))))))), ((cell_far (p := ⟨gb1040101, _, none⟩) NB1040109_1040101.out _).trans (((cell_far (p := ⟨gb1040101, _, none⟩) NB1040109_1040101.out _).trans (((cell_far (p := ⟨gb1040101, _, none⟩) NB1040109_1040101.out _).trans (((cell_far (p := ⟨gb1040101, _, none⟩) NB1040109_1040101.out _).trans (((cell_far (p := ⟨gb1040101, _, none⟩) NB1040109_1040101.out _).trans (hHeld.2.2.2.2))))))))))⟩ (fun hHeld => ?_)
              clear hK K
              refine done_ (by kernel_rfl) ?_
              try go_wp2
              refine bodyPost_ret (results_list (rs := [.tmp 4, .tmp 5, .cell 6 46]) rfl (by simp) (.tmp (.tmp (.cell gb1040101 46 #[.int .i64 t1040104, .int .i64 t1040105, .int .i64 t1040106, .int .i64 t1040107, .int .i64 t1040108] (0, 0) _ rfl (by (with_reducible repeat (first | refine blk_drewN ?_ _ | refine blk_drew ?_ | refine blk_alloc ?_ _)); refine blk_put (cs := #[.int .i64 t1040104, .int .i64 t1040105, .int .i64 t1040106, .int .i64 t1040107, .int .i64 0]) ?_ 4 _ rfl; (with_reducible repeat (first | refine blk_drewN ?_ _ | refine blk_drew ?_ | refine blk_alloc ?_ _)); refine blk_put (cs := #[.int .i64 t1040104, .int .i64 t1040105, .int .i64 t1040106, .int .i64 0, .int .i64 0]) ?_ 3 _ rfl; (with_reducible repeat (first | refine blk_drewN ?_ _ | refine blk_drew ?_ | refine blk_alloc ?_ _)); refine blk_put (cs := #[.int .i64 t1040104, .int .i64 t1040105, .int .i64 0, .int .i64 0, .int .i64 0]) ?_ 2 _ rfl; (with_reducible repeat (first | refine blk_drewN ?_ _ | refine blk_drew ?_ | refine blk_alloc ?_ _)); refine blk_put (cs := #[.int .i64 t1040104, .int .i64 0, .int .i64 0, .int .i64 0, .int .i64 0]) ?_ 1 _ rfl; (with_reducible repeat (first | refine blk_drewN ?_ _ | refine blk_drew ?_ | refine blk_alloc ?_ _)); refine blk_put (cs := #[.int .i64 0, .int .i64 0, .int .i64 0, .int .i64 0, .int .i64 0]) ?_ 0 _ rfl; (with_reducible repeat (first | refine blk_drewN ?_ _ | refine blk_drew ?_ | refine blk_alloc ?_ _)); exact BK1040101.out) Tryz.underlying46 rfl (by kernel_rfl) .nil)))) rfl ?_
              exact ⟨by first | rfl | (simp [errW_none, errW_some] <;> rfl) | (simp [*, errW_none, errW_some] <;> rfl), by repeat (first | (with_reducible first | exact HB.out | apply below_alloc | apply pw_below_drewN | apply below_drew1 | refine below_set ?_ GE1040101.out | refine below_set ?_ GE1040109.out) | exact HB.out)⟩
            · replace c30 := Bool.eq_false_iff.mpr c30
              subst c30
              have H1 : (if 0 ≤ t1040103 then (if t1040103 < (a0.size : Int) then (if (bt a0 t1040103) = 10 then ((larderref04_placed.f kj9 a0 3 t1040103).bind fun bt1040110 => (some ((⟨#[]⟩ : ByteArray), 0, bt1040110.1, bt1040110.2.1, bt1040110.2.2.1, bt1040110.2.2.2.1, bt1040110.2.2.2.2))) else ((larderref04_placed.f kj9 a0 2 t1040103).bind fun bt1040115 => (some ((⟨#[]⟩ : ByteArray), 0, bt1040115.1, bt1040115.2.1, bt1040115.2.2.1, bt1040115.2.2.2.1, bt1040115.2.2.2.2)))) else (none)) else (none)) = some (r1, r2, r3, r4, r5, r6, r7) := by rw [if_neg (show ¬ (false = true) by decide)] at H; exact H
              clear H
              have H := H1
              clear H1
              by_cases c37 : 0 ≤ t1040103
              · rw [if_pos c37] at H
                have c37b0 : decide (0 ≤ t1040103) = true := decide_eq_true c37
                clear c37
                by_cases c38 : t1040103 < (a0.size : Int)
                · rw [if_pos c38] at H
                  have c38b0 : decide (t1040103 < (a0.size : Int)) = true := decide_eq_true c38
                  clear c38
                  by_cases c40 : (bt a0 t1040103) = 10
                  · rw [if_pos c40] at H
                    have c40b0 : ((bt a0 t1040103) == 10) = true := beq_iff_eq.mpr c40
                    have c40b1 : ((bt a0 t1040103) != 10) = false := bne_eq_false_iff_eq.mpr c40
                    clear c40
                    replace H := Option.bind_eq_some_iff.mp H
                    obtain ⟨⟨t1040110, t1040111, t1040112, t1040113, t1040114⟩, A410, H⟩ := H
                    replace H : (some ((⟨#[]⟩ : ByteArray), 0, t1040110, t1040111, t1040112, t1040113, t1040114)) = some (r1, r2, r3, r4, r5, r6, r7) := H
                    have A41 := Aside0.mk A410
                    clear A410
                    simp only [Option.some.injEq, Prod.mk.injEq] at H
                    obtain ⟨rfl, rfl, rfl, rfl, rfl, rfl, rfl⟩ := H
                    have p39 : 0 ≤ (t1040103 : Int) := of_decide_eq_true (by first | (with_reducible assumption) | assumption)
                    have q39 : t1040103 < (a0.size : Int) := of_decide_eq_true (by first | (with_reducible assumption) | assumption)
                    have hx39 := bt_at a0 t1040103
                    replace p39 := eq_true p39
                    replace q39 := eq_true q39
                    go_wp2_with (first | ((with_reducible refine gate_callee (f := 71) rfl ?_); refine goesL_ (some 58) rfl rfl Tryz.func71 (by kernel_rfl) rfl #[.string a0, .int .i64 3, .int .i64 t1040103] rfl (by (try simp only [List.map_toArray, List.map_cons, List.map_nil]); first | done | rfl | (simp only [List.length_drop, List.length_take]; rfl)) ?_; (with_reducible refine (larderref04_placed.calls kj9 a0 3 t1040103 t1040110 t1040111 t1040112 t1040113 t1040114 _ A41.out).mono ?_); rintro e w42 ⟨rfl, hb⟩; refine ⟨_, rfl, ?_⟩; have n0_ := Aside0.mk (blk_below (g := gb1040101) (o := .cells #[.int .i64 0, .int .i64 0, .int .i64 0, .int .i64 0, .int .i64 0] 46 (0, 0)) (by (with_reducible repeat (first | refine blk_drewN ?_ _ | refine blk_drew ?_ | refine blk_alloc ?_ _)); exact BK1040101.out) hb); have n1_ := Aside0.mk (blk_below (g := gb1040109) (o := .cells #[.int .i64 t1040104, .int .i64 t1040105, .int .i64 t1040106, .int .i64 t1040107, .int .i64 t1040108] 46 (0, 0)) (by (with_reducible repeat (first | refine blk_drewN ?_ _ | refine blk_drew ?_ | refine blk_alloc ?_ _)); exact BK1040109.out) hb); have n2_ := Aside0.mk (below_step (by repeat (first | (with_reducible first | exact HB.out | apply below_alloc | apply pw_below_drewN | apply below_drew1 | refine below_set ?_ GE1040101.out | refine below_set ?_ GE1040109.out) | exact HB.out)) hb); clear BK1040101; clear BK1040109; clear HB; have BK1040101 := n0_; have BK1040109 := n1_; have HB := n2_; clear n0_ n1_ n2_; (try clear hb); (try clear hb2); (try clear hk); (try clear hi); have hnb43 := NB1040101_1040109.out; have hnc43 := NB1040109_1040101.out; have hcz44_0 : w42.cell? ⟨gb1040101, 0, none⟩ = some (.int .i64 0) := (blk_cell BK1040101.out 0).trans rfl; have hcz44_1 : w42.cell? ⟨gb1040101, 1, none⟩ = some (.int .i64 0) := (blk_cell BK1040101.out 1).trans rfl; have hcz44_2 : w42.cell? ⟨gb1040101, 2, none⟩ = some (.int .i64 0) := (blk_cell BK1040101.out 2).trans rfl; have hcz44_3 : w42.cell? ⟨gb1040101, 3, none⟩ = some (.int .i64 0) := (blk_cell BK1040101.out 3).trans rfl; have hcz44_4 : w42.cell? ⟨gb1040101, 4, none⟩ = some (.int .i64 0) := (blk_cell BK1040101.out 4).trans rfl; have hfz44_0 := blk_frozen BK1040101.out 0; have hfz44_1 := blk_frozen BK1040101.out 1; have hfz44_2 := blk_frozen BK1040101.out 2; have hfz44_3 := blk_frozen BK1040101.out 3; have hfz44_4 := blk_frozen BK1040101.out 4))
                    refine bodyPost_ret (results_list (rs := [.tmp 4, .tmp 5, .cell 6 46]) rfl (by simp) (.tmp (.tmp (.cell gb1040101 46 #[.int .i64 t1040110, .int .i64 t1040111, .int .i64 t1040112, .int .i64 t1040113, .int .i64 t1040114] (0, 0) _ rfl (by (with_reducible repeat (first | refine blk_drewN ?_ _ | refine blk_drew ?_ | refine blk_alloc ?_ _)); refine blk_put (cs := #[.int .i64 t1040110, .int .i64 t1040111, .int .i64 t1040112, .int .i64 t1040113, .int .i64 0]) ?_ 4 _ rfl; (with_reducible repeat (first | refine blk_drewN ?_ _ | refine blk_drew ?_ | refine blk_alloc ?_ _)); refine blk_put (cs := #[.int .i64 t1040110, .int .i64 t1040111, .int .i64 t1040112, .int .i64 0, .int .i64 0]) ?_ 3 _ rfl; (with_reducible repeat (first | refine blk_drewN ?_ _ | refine blk_drew ?_ | refine blk_alloc ?_ _)); refine blk_put (cs := #[.int .i64 t1040110, .int .i64 t1040111, .int .i64 0, .int .i64 0, .int .i64 0]) ?_ 2 _ rfl; (with_reducible repeat (first | refine blk_drewN ?_ _ | refine blk_drew ?_ | refine blk_alloc ?_ _)); refine blk_put (cs := #[.int .i64 t1040110, .int .i64 0, .int .i64 0, .int .i64 0, .int .i64 0]) ?_ 1 _ rfl; (with_reducible repeat (first | refine blk_drewN ?_ _ | refine blk_drew ?_ | refine blk_alloc ?_ _)); refine blk_put (cs := #[.int .i64 0, .int .i64 0, .int .i64 0, .int .i64 0, .int .i64 0]) ?_ 0 _ rfl; (with_reducible repeat (first | refine blk_drewN ?_ _ | refine blk_drew ?_ | refine blk_alloc ?_ _)); exact BK1040101.out) Tryz.underlying46 rfl (by kernel_rfl) .nil)))) rfl ?_
                    exact ⟨by first | rfl | (simp [errW_none, errW_some] <;> rfl) | (simp [*, errW_none, errW_some] <;> rfl), by repeat (first | (with_reducible first | exact HB.out | apply below_alloc | apply pw_below_drewN | apply below_drew1 | refine below_set ?_ GE1040101.out | refine below_set ?_ GE1040109.out) | exact HB.out)⟩
                  · rw [if_neg c40] at H
                    have c40b0 : ((bt a0 t1040103) == 10) = false := beq_eq_false_iff_ne.mpr c40
                    have c40b1 : ((bt a0 t1040103) != 10) = true := bne_iff_ne.mpr c40
                    replace H := Option.bind_eq_some_iff.mp H
                    obtain ⟨⟨t1040115, t1040116, t1040117, t1040118, t1040119⟩, A450, H⟩ := H
                    replace H : (some ((⟨#[]⟩ : ByteArray), 0, t1040115, t1040116, t1040117, t1040118, t1040119)) = some (r1, r2, r3, r4, r5, r6, r7) := H
                    have A45 := Aside0.mk A450
                    clear A450
                    simp only [Option.some.injEq, Prod.mk.injEq] at H
                    obtain ⟨rfl, rfl, rfl, rfl, rfl, rfl, rfl⟩ := H
                    have p39 : 0 ≤ (t1040103 : Int) := of_decide_eq_true (by first | (with_reducible assumption) | assumption)
                    have q39 : t1040103 < (a0.size : Int) := of_decide_eq_true (by first | (with_reducible assumption) | assumption)
                    have hx39 := bt_at a0 t1040103
                    replace p39 := eq_true p39
                    replace q39 := eq_true q39
                    go_wp2_with (first | ((with_reducible refine gate_callee (f := 71) rfl ?_); refine goesL_ (some 61) rfl rfl Tryz.func71 (by kernel_rfl) rfl #[.string a0, .int .i64 2, .int .i64 t1040103] rfl (by (try simp only [List.map_toArray, List.map_cons, List.map_nil]); first | done | rfl | (simp only [List.length_drop, List.length_take]; rfl)) ?_; (with_reducible refine (larderref04_placed.calls kj9 a0 2 t1040103 t1040115 t1040116 t1040117 t1040118 t1040119 _ A45.out).mono ?_); rintro e w46 ⟨rfl, hb⟩; refine ⟨_, rfl, ?_⟩; have n0_ := Aside0.mk (blk_below (g := gb1040101) (o := .cells #[.int .i64 0, .int .i64 0, .int .i64 0, .int .i64 0, .int .i64 0] 46 (0, 0)) (by (with_reducible repeat (first | refine blk_drewN ?_ _ | refine blk_drew ?_ | refine blk_alloc ?_ _)); exact BK1040101.out) hb); have n1_ := Aside0.mk (blk_below (g := gb1040109) (o := .cells #[.int .i64 t1040104, .int .i64 t1040105, .int .i64 t1040106, .int .i64 t1040107, .int .i64 t1040108] 46 (0, 0)) (by (with_reducible repeat (first | refine blk_drewN ?_ _ | refine blk_drew ?_ | refine blk_alloc ?_ _)); exact BK1040109.out) hb); have n2_ := Aside0.mk (below_step (by repeat (first | (with_reducible first | exact HB.out | apply below_alloc | apply pw_below_drewN | apply below_drew1 | refine below_set ?_ GE1040101.out | refine below_set ?_ GE1040109.out) | exact HB.out)) hb); clear BK1040101; clear BK1040109; clear HB; have BK1040101 := n0_; have BK1040109 := n1_; have HB := n2_; clear n0_ n1_ n2_; (try clear hb); (try clear hb2); (try clear hk); (try clear hi); have hnb47 := NB1040101_1040109.out; have hnc47 := NB1040109_1040101.out; have hcz48_0 : w46.cell? ⟨gb1040101, 0, none⟩ = some (.int .i64 0) := (blk_cell BK1040101.out 0).trans rfl; have hcz48_1 : w46.cell? ⟨gb1040101, 1, none⟩ = some (.int .i64 0) := (blk_cell BK1040101.out 1).trans rfl; have hcz48_2 : w46.cell? ⟨gb1040101, 2, none⟩ = some (.int .i64 0) := (blk_cell BK1040101.out 2).trans rfl; have hcz48_3 : w46.cell? ⟨gb1040101, 3, none⟩ = some (.int .i64 0) := (blk_cell BK1040101.out 3).trans rfl; have hcz48_4 : w46.cell? ⟨gb1040101, 4, none⟩ = some (.int .i64 0) := (blk_cell BK1040101.out 4).trans rfl; have hfz48_0 := blk_frozen BK1040101.out 0; have hfz48_1 := blk_frozen BK1040101.out 1; have hfz48_2 := blk_frozen BK1040101.out 2; have hfz48_3 := blk_frozen BK1040101.out 3; have hfz48_4 := blk_frozen BK1040101.out 4))
                    refine bodyPost_ret (results_list (rs := [.tmp 4, .tmp 5, .cell 6 46]) rfl (by simp) (.tmp (.tmp (.cell gb1040101 46 #[.int .i64 t1040115, .int .i64 t1040116, .int .i64 t1040117, .int .i64 t1040118, .int .i64 t1040119] (0, 0) _ rfl (by (with_reducible repeat (first | refine blk_drewN ?_ _ | refine blk_drew ?_ | refine blk_alloc ?_ _)); refine blk_put (cs := #[.int .i64 t1040115, .int .i64 t1040116, .int .i64 t1040117, .int .i64 t1040118, .int .i64 0]) ?_ 4 _ rfl; (with_reducible repeat (first | refine blk_drewN ?_ _ | refine blk_drew ?_ | refine blk_alloc ?_ _)); refine blk_put (cs := #[.int .i64 t1040115, .int .i64 t1040116, .int .i64 t1040117, .int .i64 0, .int .i64 0]) ?_ 3 _ rfl; (with_reducible repeat (first | refine blk_drewN ?_ _ | refine blk_drew ?_ | refine blk_alloc ?_ _)); refine blk_put (cs := #[.int .i64 t1040115, .int .i64 t1040116, .int .i64 0, .int .i64 0, .int .i64 0]) ?_ 2 _ rfl; (with_reducible repeat (first | refine blk_drewN ?_ _ | refine blk_drew ?_ | refine blk_alloc ?_ _)); refine blk_put (cs := #[.int .i64 t1040115, .int .i64 0, .int .i64 0, .int .i64 0, .int .i64 0]) ?_ 1 _ rfl; (with_reducible repeat (first | refine blk_drewN ?_ _ | refine blk_drew ?_ | refine blk_alloc ?_ _)); refine blk_put (cs := #[.int .i64 0, .int .i64 0, .int .i64 0, .int .i64 0, .int .i64 0]) ?_ 0 _ rfl; (with_reducible repeat (first | refine blk_drewN ?_ _ | refine blk_drew ?_ | refine blk_alloc ?_ _)); exact BK1040101.out) Tryz.underlying46 rfl (by kernel_rfl) .nil)))) rfl ?_
                    exact ⟨by first | rfl | (simp [errW_none, errW_some] <;> rfl) | (simp [*, errW_none, errW_some] <;> rfl), by repeat (first | (with_reducible first | exact HB.out | apply below_alloc | apply pw_below_drewN | apply below_drew1 | refine below_set ?_ GE1040101.out | refine below_set ?_ GE1040109.out) | exact HB.out)⟩
                · rw [if_neg c38] at H
                  exact absurd H (by simp)
              · rw [if_neg c37] at H
                exact absurd H (by simp)
      · replace c8 := Bool.eq_false_iff.mpr c8
        subst c8
        have H1 : (larderref04_cell.l0 kj2 a0 a1 a1) = some (r1, r2, r3, r4, r5, r6, r7) := by rw [if_neg (show ¬ (false = true) by decide)] at H; exact H
        clear H
        have H := H1
        clear H1
        have H' := Aside0.mk H
        clear H
        go_wp2
        go_loopg [10] kj2 (fun kq v10 w' => ∃ (x10_2 : Int) (x1040102000_2 : Int) (x1040102001_2 : Int) (x1040102002_2 : Int) (x1040102003_2 : Int) (x1040102004_2 : Int), v10 = .int .i64 x10_2 ∧ Aside0 (larderref04_cell.l0 kq a0 a1 x10_2 = some (r1, r2, r3, r4, r5, r6, r7)) ∧ Aside0 (kq ≤ kj2) ∧ Aside0 (w'.heap[gb1040101]? = some (.cells #[.int .i64 x1040102000_2, .int .i64 x1040102001_2, .int .i64 x1040102002_2, .int .i64 x1040102003_2, .int .i64 x1040102004_2] 46 (0, 0))) ∧ Aside0 (Below w.heap.size w w'))
        case atStart => exact ⟨(a1), (0), (0), (0), (0), (0), (by first | rfl | (simp; done) | (simp [*]; done)), H', ⟨Nat.le_refl _⟩, ⟨by (with_reducible repeat (first | refine blk_drewN ?_ _ | refine blk_drew ?_ | refine blk_alloc ?_ _)); exact BK1040101.out⟩, ⟨by repeat (first | (with_reducible first | exact HB.out | apply below_alloc | apply pw_below_drewN | apply below_drew1 | refine below_set ?_ GE1040101.out) | exact HB.out)⟩⟩
        case round =>
          clear H'
          try clear c1
          try clear c2
          try clear p2
          try clear q2
          try clear hx2
          try clear c3
          try clear p3
          try clear q3
          try clear hx3
          try clear c4
          try clear c5
          try clear c5b0
          try clear c6
          try clear c6b0
          try clear c7
          try clear p7
          try clear q7
          try clear hx7
          try clear c8
          try clear c10
          try clear c11
          try clear c13
          try clear c15
          try clear c15b0
          try clear c15b1
          try clear c16
          try clear c16b0
          try clear c16b1
          try clear c17
          try clear c19
          try clear c19b0
          try clear c20
          try clear c20b0
          try clear p21
          try clear q21
          try clear hx21
          try clear c22
          try clear c22b0
          try clear c22b1
          try clear c23
          try clear p25
          try clear q25
          try clear hx25
          try clear c26
          try clear c28
          try clear c30
          try clear c37
          try clear c37b0
          try clear c38
          try clear c38b0
          try clear p39
          try clear q39
          try clear hx39
          try clear c40
          try clear c40b0
          try clear c40b1
          try clear c43
          try clear c47
          try clear hcz14_0
          try clear hcz14_1
          try clear hcz14_2
          try clear hcz14_3
          try clear hcz14_4
          try clear hcz18_0
          try clear hcz18_1
          try clear hcz18_2
          try clear hcz18_3
          try clear hcz18_4
          try clear hcz24_0
          try clear hcz24_1
          try clear hcz24_2
          try clear hcz24_3
          try clear hcz24_4
          try clear hcz27_0
          try clear hcz27_1
          try clear hcz27_2
          try clear hcz27_3
          try clear hcz27_4
          try clear hcz29_0
          try clear hcz29_1
          try clear hcz29_2
          try clear hcz29_3
          try clear hcz29_4
          try clear hcz44_0
          try clear hcz44_1
          try clear hcz44_2
          try clear hcz44_3
          try clear hcz44_4
          try clear hcz48_0
          try clear hcz48_1
          try clear hcz48_2
          try clear hcz48_3
          try clear hcz48_4
          try clear hfz14_0
          try clear hfz14_1
          try clear hfz14_2
          try clear hfz14_3
          try clear hfz14_4
          try clear hfz18_0
          try clear hfz18_1
          try clear hfz18_2
          try clear hfz18_3
          try clear hfz18_4
          try clear hfz24_0
          try clear hfz24_1
          try clear hfz24_2
          try clear hfz24_3
          try clear hfz24_4
          try clear hfz27_0
          try clear hfz27_1
          try clear hfz27_2
          try clear hfz27_3
          try clear hfz27_4
          try clear hfz29_0
          try clear hfz29_1
          try clear hfz29_2
          try clear hfz29_3
          try clear hfz29_4
          try clear hfz44_0
          try clear hfz44_1
          try clear hfz44_2
          try clear hfz44_3
          try clear hfz44_4
          try clear hfz48_0
          try clear hfz48_1
          try clear hfz48_2
          try clear hfz48_3
          try clear hfz48_4
          try clear p2
          try clear p21
          try clear p25
          try clear p39
          try clear p7
          try clear q2
          try clear q21
          try clear q25
          try clear q39
          try clear q7
          obtain ⟨x10_2, x1040102000_2, x1040102001_2, x1040102002_2, x1040102003_2, x1040102004_2, rfl, HA, HK2, BK1040101, HB⟩ := hrel
          cases gk with
          | zero => exact absurd HA.out (by simp [larderref04_cell.l0])
          | succ k2 =>
            have H := HA.out
            clear HA
            simp only [larderref04_cell.l0] at H
            have HC49 := Aside0.mk H
            clear H
            go_upto_region 9 with (fail)
            go_cut [78] (fun v78 wc => ∃ (kq : Nat) (x78_48 : Bool), v78 = .bool x78_48 ∧ Aside0 (larderref04_cell.j3 kq a0 a1 x10_2 x78_48 = some (r1, r2, r3, r4, r5, r6, r7)) ∧ Aside0 (kq ≤ k2) ∧ Aside0 (wc.heap[gb1040101]? = some (.cells #[.int .i64 x1040102000_2, .int .i64 x1040102001_2, .int .i64 x1040102002_2, .int .i64 x1040102003_2, .int .i64 x1040102004_2] 46 (0, 0))) ∧ Aside0 (Below w.heap.size w wc))
            case first =>
              have H := HC49.out
              clear HC49
              by_cases c50 : x10_2 < (a0.size : Int)
              · rw [if_pos c50] at H
                have c50b0 : decide (x10_2 < (a0.size : Int)) = true := decide_eq_true c50
                clear c50
                (first | rw [c50b0] | (simp only [i64_w, i32_w]; rw [c50b0]) | skip)
                by_cases c51 : 0 ≤ x10_2
                · rw [if_pos c51] at H
                  have c51b0 : decide (0 ≤ x10_2) = true := decide_eq_true c51
                  clear c51
                  by_cases c53 : (bt a0 x10_2) = 44
                  · rw [if_pos c53] at H
                    have c53b0 : ((bt a0 x10_2) == 44) = true := beq_iff_eq.mpr c53
                    have c53b1 : ((bt a0 x10_2) != 44) = false := bne_eq_false_iff_eq.mpr c53
                    clear c53
                    have H' := Aside0.mk H
                    clear H
                    have p52 : 0 ≤ (x10_2 : Int) := of_decide_eq_true (by first | (with_reducible assumption) | assumption)
                    have q52 : x10_2 < (a0.size : Int) := of_decide_eq_true (by first | (with_reducible assumption) | assumption)
                    have hx52 := bt_at a0 x10_2
                    replace p52 := eq_true p52
                    replace q52 := eq_true q52
                    go_wp2
                    go_meet
                    case rel => exact ⟨_, (false), (by first | rfl | (simp; done) | (simp [*]; done)), H', ⟨by have := HJ2.out; have := HK2.out; first | omega | exact Nat.le_refl _⟩, ⟨by (with_reducible repeat (first | refine blk_drewN ?_ _ | refine blk_drew ?_ | refine blk_alloc ?_ _)); exact BK1040101.out⟩, ⟨by repeat (first | (with_reducible first | exact HB.out | apply below_alloc | apply pw_below_drewN | apply below_drew1 | refine below_set ?_ GE1040101.out) | exact HB.out)⟩⟩
                  · rw [if_neg c53] at H
                    have c53b0 : ((bt a0 x10_2) == 44) = false := beq_eq_false_iff_ne.mpr c53
                    have c53b1 : ((bt a0 x10_2) != 44) = true := bne_iff_ne.mpr c53
                    have H' := Aside0.mk H
                    clear H
                    have p52 : 0 ≤ (x10_2 : Int) := of_decide_eq_true (by first | (with_reducible assumption) | assumption)
                    have q52 : x10_2 < (a0.size : Int) := of_decide_eq_true (by first | (with_reducible assumption) | assumption)
                    have hx52 := bt_at a0 x10_2
                    replace p52 := eq_true p52
                    replace q52 := eq_true q52
                    have p54 : 0 ≤ (x10_2 : Int) := of_decide_eq_true (by first | (with_reducible assumption) | assumption)
                    have q54 : x10_2 < (a0.size : Int) := of_decide_eq_true (by first | (with_reducible assumption) | assumption)
                    have hx54 := bt_at a0 x10_2
                    replace p54 := eq_true p54
                    replace q54 := eq_true q54
                    go_wp2
                    go_meet
                    case rel => exact ⟨_, (((bt a0 x10_2) != 13)), (by first | rfl | (simp; done) | (simp [*]; done)), H', ⟨by have := HJ2.out; have := HK2.out; first | omega | exact Nat.le_refl _⟩, ⟨by (with_reducible repeat (first | refine blk_drewN ?_ _ | refine blk_drew ?_ | refine blk_alloc ?_ _)); exact BK1040101.out⟩, ⟨by repeat (first | (with_reducible first | exact HB.out | apply below_alloc | apply pw_below_drewN | apply below_drew1 | refine below_set ?_ GE1040101.out) | exact HB.out)⟩⟩
                · rw [if_neg c51] at H
                  exact absurd H (by simp)
              · rw [if_neg c50] at H
                have c50b0 : decide (x10_2 < (a0.size : Int)) = false := decide_eq_false c50
                clear c50
                (first | rw [c50b0] | (simp only [i64_w, i32_w]; rw [c50b0]) | skip)
                have H' := Aside0.mk H
                clear H
                go_wp2
                go_meet
                case rel => exact ⟨_, (false), (by first | rfl | (simp; done) | (simp [*]; done)), H', ⟨by have := HJ2.out; have := HK2.out; first | omega | exact Nat.le_refl _⟩, ⟨by (with_reducible repeat (first | refine blk_drewN ?_ _ | refine blk_drew ?_ | refine blk_alloc ?_ _)); exact BK1040101.out⟩, ⟨by repeat (first | (with_reducible first | exact HB.out | apply below_alloc | apply pw_below_drewN | apply below_drew1 | refine below_set ?_ GE1040101.out) | exact HB.out)⟩⟩
            case rest =>
              clear HC49
              try clear c1
              try clear c2
              try clear p2
              try clear q2
              try clear hx2
              try clear c3
              try clear p3
              try clear q3
              try clear hx3
              try clear c4
              try clear c5
              try clear c5b0
              try clear p5
              try clear q5
              try clear hx5
              try clear c6
              try clear c6b0
              try clear c7
              try clear p7
              try clear q7
              try clear hx7
              try clear c8
              try clear c10
              try clear c11
              try clear c13
              try clear c15
              try clear c15b0
              try clear c15b1
              try clear c16
              try clear c16b0
              try clear c16b1
              try clear c17
              try clear c19
              try clear c19b0
              try clear c20
              try clear c20b0
              try clear p21
              try clear q21
              try clear hx21
              try clear c22
              try clear c22b0
              try clear c22b1
              try clear c23
              try clear p25
              try clear q25
              try clear hx25
              try clear c26
              try clear c28
              try clear c30
              try clear c37
              try clear c37b0
              try clear c38
              try clear c38b0
              try clear p39
              try clear q39
              try clear hx39
              try clear c40
              try clear c40b0
              try clear c40b1
              try clear c43
              try clear c47
              try clear c50
              try clear c50b0
              try clear c51
              try clear c51b0
              try clear p52
              try clear q52
              try clear hx52
              try clear c53
              try clear c53b0
              try clear c53b1
              try clear p54
              try clear q54
              try clear hx54
              try clear hcz14_0
              try clear hcz14_1
              try clear hcz14_2
              try clear hcz14_3
              try clear hcz14_4
              try clear hcz18_0
              try clear hcz18_1
              try clear hcz18_2
              try clear hcz18_3
              try clear hcz18_4
              try clear hcz24_0
              try clear hcz24_1
              try clear hcz24_2
              try clear hcz24_3
              try clear hcz24_4
              try clear hcz27_0
              try clear hcz27_1
              try clear hcz27_2
              try clear hcz27_3
              try clear hcz27_4
              try clear hcz29_0
              try clear hcz29_1
              try clear hcz29_2
              try clear hcz29_3
              try clear hcz29_4
              try clear hcz44_0
              try clear hcz44_1
              try clear hcz44_2
              try clear hcz44_3
              try clear hcz44_4
              try clear hcz48_0
              try clear hcz48_1
              try clear hcz48_2
              try clear hcz48_3
              try clear hcz48_4
              try clear hfz14_0
              try clear hfz14_1
              try clear hfz14_2
              try clear hfz14_3
              try clear hfz14_4
              try clear hfz18_0
              try clear hfz18_1
              try clear hfz18_2
              try clear hfz18_3
              try clear hfz18_4
              try clear hfz24_0
              try clear hfz24_1
              try clear hfz24_2
              try clear hfz24_3
              try clear hfz24_4
              try clear hfz27_0
              try clear hfz27_1
              try clear hfz27_2
              try clear hfz27_3
              try clear hfz27_4
              try clear hfz29_0
              try clear hfz29_1
              try clear hfz29_2
              try clear hfz29_3
              try clear hfz29_4
              try clear hfz44_0
              try clear hfz44_1
              try clear hfz44_2
              try clear hfz44_3
              try clear hfz44_4
              try clear hfz48_0
              try clear hfz48_1
              try clear hfz48_2
              try clear hfz48_3
              try clear hfz48_4
              try clear p2
              try clear p21
              try clear p25
              try clear p3
              try clear p39
              try clear p52
              try clear p54
              try clear p7
              try clear q2
              try clear q21
              try clear q25
              try clear q3
              try clear q39
              try clear q52
              try clear q54
              try clear q7
              obtain ⟨kq, x78_48, rfl, HA, HJ48, BK1040101, HB⟩ := hcut
              cases kq with
              | zero => exact absurd HA.out (by simp [larderref04_cell.j3])
              | succ kj48 =>
                have H := HA.out
                clear HA
                simp only [larderref04_cell.j3] at H
                by_cases c55 : x78_48 = true
                · subst c55
                  have H1 : (if 0 ≤ x10_2 then (if x10_2 < (a0.size : Int) then (if (bt a0 x10_2) = 10 then ((larderref04_placed.f kj48 a0 3 x10_2).bind fun bt1040120 => (some ((⟨#[]⟩ : ByteArray), 0, bt1040120.1, bt1040120.2.1, bt1040120.2.2.1, bt1040120.2.2.2.1, bt1040120.2.2.2.2))) else (if (bt a0 x10_2) = 34 then ((larderref04_placed.f kj48 a0 2 x10_2).bind fun bt1040125 => (some ((⟨#[]⟩ : ByteArray), 0, bt1040125.1, bt1040125.2.1, bt1040125.2.2.1, bt1040125.2.2.2.1, bt1040125.2.2.2.2))) else (if (bt a0 x10_2) = 9 then (larderref04_cell.j4 kj48 a0 a1 x10_2 true) else ((larderref04_may.f (bt a0 x10_2)).bind fun t1040130 => (larderref04_cell.j4 kj48 a0 a1 x10_2 (!t1040130)))))) else (none)) else (none)) = some (r1, r2, r3, r4, r5, r6, r7) := by rw [if_pos rfl] at H; exact H
                  clear H
                  have H := H1
                  clear H1
                  by_cases c56 : 0 ≤ x10_2
                  · rw [if_pos c56] at H
                    have c56b0 : decide (0 ≤ x10_2) = true := decide_eq_true c56
                    clear c56
                    by_cases c57 : x10_2 < (a0.size : Int)
                    · rw [if_pos c57] at H
                      have c57b0 : decide (x10_2 < (a0.size : Int)) = true := decide_eq_true c57
                      clear c57
                      by_cases c59 : (bt a0 x10_2) = 10
                      · rw [if_pos c59] at H
                        have c59b0 : ((bt a0 x10_2) == 10) = true := beq_iff_eq.mpr c59
                        have c59b1 : ((bt a0 x10_2) != 10) = false := bne_eq_false_iff_eq.mpr c59
                        clear c59
                        replace H := Option.bind_eq_some_iff.mp H
                        obtain ⟨⟨t1040120, t1040121, t1040122, t1040123, t1040124⟩, A600, H⟩ := H
                        replace H : (some ((⟨#[]⟩ : ByteArray), 0, t1040120, t1040121, t1040122, t1040123, t1040124)) = some (r1, r2, r3, r4, r5, r6, r7) := H
                        have A60 := Aside0.mk A600
                        clear A600
                        simp only [Option.some.injEq, Prod.mk.injEq] at H
                        obtain ⟨rfl, rfl, rfl, rfl, rfl, rfl, rfl⟩ := H
                        have p58 : 0 ≤ (x10_2 : Int) := of_decide_eq_true (by first | (with_reducible assumption) | assumption)
                        have q58 : x10_2 < (a0.size : Int) := of_decide_eq_true (by first | (with_reducible assumption) | assumption)
                        have hx58 := bt_at a0 x10_2
                        replace p58 := eq_true p58
                        replace q58 := eq_true q58
                        go_wp2_with (first | ((with_reducible refine gate_callee (f := 71) rfl ?_); refine goesL_ (some 86) rfl rfl Tryz.func71 (by kernel_rfl) rfl #[.string a0, .int .i64 3, .int .i64 x10_2] rfl (by (try simp only [List.map_toArray, List.map_cons, List.map_nil]); first | done | rfl | (simp only [List.length_drop, List.length_take]; rfl)) ?_; (with_reducible refine (larderref04_placed.calls kj48 a0 3 x10_2 t1040120 t1040121 t1040122 t1040123 t1040124 _ A60.out).mono ?_); rintro e w61 ⟨rfl, hb⟩; refine ⟨_, rfl, ?_⟩; have n0_ := Aside0.mk (blk_below (g := gb1040101) (o := .cells #[.int .i64 x1040102000_2, .int .i64 x1040102001_2, .int .i64 x1040102002_2, .int .i64 x1040102003_2, .int .i64 x1040102004_2] 46 (0, 0)) (by (with_reducible repeat (first | refine blk_drewN ?_ _ | refine blk_drew ?_ | refine blk_alloc ?_ _)); exact BK1040101.out) hb); have n1_ := Aside0.mk (below_step (by repeat (first | (with_reducible first | exact HB.out | apply below_alloc | apply pw_below_drewN | apply below_drew1 | refine below_set ?_ GE1040101.out) | exact HB.out)) hb); clear BK1040101; clear HB; have BK1040101 := n0_; have HB := n1_; clear n0_ n1_; (try clear hb); (try clear hb2); (try clear hk); (try clear hi); have hcz62_0 : w61.cell? ⟨gb1040101, 0, none⟩ = some (.int .i64 x1040102000_2) := (blk_cell BK1040101.out 0).trans rfl; have hcz62_1 : w61.cell? ⟨gb1040101, 1, none⟩ = some (.int .i64 x1040102001_2) := (blk_cell BK1040101.out 1).trans rfl; have hcz62_2 : w61.cell? ⟨gb1040101, 2, none⟩ = some (.int .i64 x1040102002_2) := (blk_cell BK1040101.out 2).trans rfl; have hcz62_3 : w61.cell? ⟨gb1040101, 3, none⟩ = some (.int .i64 x1040102003_2) := (blk_cell BK1040101.out 3).trans rfl; have hcz62_4 : w61.cell? ⟨gb1040101, 4, none⟩ = some (.int .i64 x1040102004_2) := (blk_cell BK1040101.out 4).trans rfl; have hfz62_0 := blk_frozen BK1040101.out 0; have hfz62_1 := blk_frozen BK1040101.out 1; have hfz62_2 := blk_frozen BK1040101.out 2; have hfz62_3 := blk_frozen BK1040101.out 3; have hfz62_4 := blk_frozen BK1040101.out 4))
                        refine bodyPost_ret (results_list (rs := [.tmp 4, .tmp 5, .cell 6 46]) rfl (by simp) (.tmp (.tmp (.cell gb1040101 46 #[.int .i64 t1040120, .int .i64 t1040121, .int .i64 t1040122, .int .i64 t1040123, .int .i64 t1040124] (0, 0) _ rfl (by (with_reducible repeat (first | refine blk_drewN ?_ _ | refine blk_drew ?_ | refine blk_alloc ?_ _)); refine blk_put (cs := #[.int .i64 t1040120, .int .i64 t1040121, .int .i64 t1040122, .int .i64 t1040123, .int .i64 x1040102004_2]) ?_ 4 _ rfl; (with_reducible repeat (first | refine blk_drewN ?_ _ | refine blk_drew ?_ | refine blk_alloc ?_ _)); refine blk_put (cs := #[.int .i64 t1040120, .int .i64 t1040121, .int .i64 t1040122, .int .i64 x1040102003_2, .int .i64 x1040102004_2]) ?_ 3 _ rfl; (with_reducible repeat (first | refine blk_drewN ?_ _ | refine blk_drew ?_ | refine blk_alloc ?_ _)); refine blk_put (cs := #[.int .i64 t1040120, .int .i64 t1040121, .int .i64 x1040102002_2, .int .i64 x1040102003_2, .int .i64 x1040102004_2]) ?_ 2 _ rfl; (with_reducible repeat (first | refine blk_drewN ?_ _ | refine blk_drew ?_ | refine blk_alloc ?_ _)); refine blk_put (cs := #[.int .i64 t1040120, .int .i64 x1040102001_2, .int .i64 x1040102002_2, .int .i64 x1040102003_2, .int .i64 x1040102004_2]) ?_ 1 _ rfl; (with_reducible repeat (first | refine blk_drewN ?_ _ | refine blk_drew ?_ | refine blk_alloc ?_ _)); refine blk_put (cs := #[.int .i64 x1040102000_2, .int .i64 x1040102001_2, .int .i64 x1040102002_2, .int .i64 x1040102003_2, .int .i64 x1040102004_2]) ?_ 0 _ rfl; (with_reducible repeat (first | refine blk_drewN ?_ _ | refine blk_drew ?_ | refine blk_alloc ?_ _)); exact BK1040101.out) Tryz.underlying46 rfl (by kernel_rfl) .nil)))) rfl ?_
                        exact ⟨by first | rfl | (simp [errW_none, errW_some] <;> rfl) | (simp [*, errW_none, errW_some] <;> rfl), by repeat (first | (with_reducible first | exact HB.out | apply below_alloc | apply pw_below_drewN | apply below_drew1 | refine below_set ?_ GE1040101.out) | exact HB.out)⟩
                      · rw [if_neg c59] at H
                        have c59b0 : ((bt a0 x10_2) == 10) = false := beq_eq_false_iff_ne.mpr c59
                        have c59b1 : ((bt a0 x10_2) != 10) = true := bne_iff_ne.mpr c59
                        by_cases c64 : (bt a0 x10_2) = 34
                        · rw [if_pos c64] at H
                          have c64b0 : ((bt a0 x10_2) == 34) = true := beq_iff_eq.mpr c64
                          have c64b1 : ((bt a0 x10_2) != 34) = false := bne_eq_false_iff_eq.mpr c64
                          clear c64
                          replace H := Option.bind_eq_some_iff.mp H
                          obtain ⟨⟨t1040125, t1040126, t1040127, t1040128, t1040129⟩, A650, H⟩ := H
                          replace H : (some ((⟨#[]⟩ : ByteArray), 0, t1040125, t1040126, t1040127, t1040128, t1040129)) = some (r1, r2, r3, r4, r5, r6, r7) := H
                          have A65 := Aside0.mk A650
                          clear A650
                          simp only [Option.some.injEq, Prod.mk.injEq] at H
                          obtain ⟨rfl, rfl, rfl, rfl, rfl, rfl, rfl⟩ := H
                          have p58 : 0 ≤ (x10_2 : Int) := of_decide_eq_true (by first | (with_reducible assumption) | assumption)
                          have q58 : x10_2 < (a0.size : Int) := of_decide_eq_true (by first | (with_reducible assumption) | assumption)
                          have hx58 := bt_at a0 x10_2
                          replace p58 := eq_true p58
                          replace q58 := eq_true q58
                          have p63 : 0 ≤ (x10_2 : Int) := of_decide_eq_true (by first | (with_reducible assumption) | assumption)
                          have q63 : x10_2 < (a0.size : Int) := of_decide_eq_true (by first | (with_reducible assumption) | assumption)
                          have hx63 := bt_at a0 x10_2
                          replace p63 := eq_true p63
                          replace q63 := eq_true q63
                          go_wp2_with (first | ((with_reducible refine gate_callee (f := 71) rfl ?_); refine goesL_ (some 94) rfl rfl Tryz.func71 (by kernel_rfl) rfl #[.string a0, .int .i64 2, .int .i64 x10_2] rfl (by (try simp only [List.map_toArray, List.map_cons, List.map_nil]); first | done | rfl | (simp only [List.length_drop, List.length_take]; rfl)) ?_; (with_reducible refine (larderref04_placed.calls kj48 a0 2 x10_2 t1040125 t1040126 t1040127 t1040128 t1040129 _ A65.out).mono ?_); rintro e w66 ⟨rfl, hb⟩; refine ⟨_, rfl, ?_⟩; have n0_ := Aside0.mk (blk_below (g := gb1040101) (o := .cells #[.int .i64 x1040102000_2, .int .i64 x1040102001_2, .int .i64 x1040102002_2, .int .i64 x1040102003_2, .int .i64 x1040102004_2] 46 (0, 0)) (by (with_reducible repeat (first | refine blk_drewN ?_ _ | refine blk_drew ?_ | refine blk_alloc ?_ _)); exact BK1040101.out) hb); have n1_ := Aside0.mk (below_step (by repeat (first | (with_reducible first | exact HB.out | apply below_alloc | apply pw_below_drewN | apply below_drew1 | refine below_set ?_ GE1040101.out) | exact HB.out)) hb); clear BK1040101; clear HB; have BK1040101 := n0_; have HB := n1_; clear n0_ n1_; (try clear hb); (try clear hb2); (try clear hk); (try clear hi); have hcz67_0 : w66.cell? ⟨gb1040101, 0, none⟩ = some (.int .i64 x1040102000_2) := (blk_cell BK1040101.out 0).trans rfl; have hcz67_1 : w66.cell? ⟨gb1040101, 1, none⟩ = some (.int .i64 x1040102001_2) := (blk_cell BK1040101.out 1).trans rfl; have hcz67_2 : w66.cell? ⟨gb1040101, 2, none⟩ = some (.int .i64 x1040102002_2) := (blk_cell BK1040101.out 2).trans rfl; have hcz67_3 : w66.cell? ⟨gb1040101, 3, none⟩ = some (.int .i64 x1040102003_2) := (blk_cell BK1040101.out 3).trans rfl; have hcz67_4 : w66.cell? ⟨gb1040101, 4, none⟩ = some (.int .i64 x1040102004_2) := (blk_cell BK1040101.out 4).trans rfl; have hfz67_0 := blk_frozen BK1040101.out 0; have hfz67_1 := blk_frozen BK1040101.out 1; have hfz67_2 := blk_frozen BK1040101.out 2; have hfz67_3 := blk_frozen BK1040101.out 3; have hfz67_4 := blk_frozen BK1040101.out 4))
                          refine bodyPost_ret (results_list (rs := [.tmp 4, .tmp 5, .cell 6 46]) rfl (by simp) (.tmp (.tmp (.cell gb1040101 46 #[.int .i64 t1040125, .int .i64 t1040126, .int .i64 t1040127, .int .i64 t1040128, .int .i64 t1040129] (0, 0) _ rfl (by (with_reducible repeat (first | refine blk_drewN ?_ _ | refine blk_drew ?_ | refine blk_alloc ?_ _)); refine blk_put (cs := #[.int .i64 t1040125, .int .i64 t1040126, .int .i64 t1040127, .int .i64 t1040128, .int .i64 x1040102004_2]) ?_ 4 _ rfl; (with_reducible repeat (first | refine blk_drewN ?_ _ | refine blk_drew ?_ | refine blk_alloc ?_ _)); refine blk_put (cs := #[.int .i64 t1040125, .int .i64 t1040126, .int .i64 t1040127, .int .i64 x1040102003_2, .int .i64 x1040102004_2]) ?_ 3 _ rfl; (with_reducible repeat (first | refine blk_drewN ?_ _ | refine blk_drew ?_ | refine blk_alloc ?_ _)); refine blk_put (cs := #[.int .i64 t1040125, .int .i64 t1040126, .int .i64 x1040102002_2, .int .i64 x1040102003_2, .int .i64 x1040102004_2]) ?_ 2 _ rfl; (with_reducible repeat (first | refine blk_drewN ?_ _ | refine blk_drew ?_ | refine blk_alloc ?_ _)); refine blk_put (cs := #[.int .i64 t1040125, .int .i64 x1040102001_2, .int .i64 x1040102002_2, .int .i64 x1040102003_2, .int .i64 x1040102004_2]) ?_ 1 _ rfl; (with_reducible repeat (first | refine blk_drewN ?_ _ | refine blk_drew ?_ | refine blk_alloc ?_ _)); refine blk_put (cs := #[.int .i64 x1040102000_2, .int .i64 x1040102001_2, .int .i64 x1040102002_2, .int .i64 x1040102003_2, .int .i64 x1040102004_2]) ?_ 0 _ rfl; (with_reducible repeat (first | refine blk_drewN ?_ _ | refine blk_drew ?_ | refine blk_alloc ?_ _)); exact BK1040101.out) Tryz.underlying46 rfl (by kernel_rfl) .nil)))) rfl ?_
                          exact ⟨by first | rfl | (simp [errW_none, errW_some] <;> rfl) | (simp [*, errW_none, errW_some] <;> rfl), by repeat (first | (with_reducible first | exact HB.out | apply below_alloc | apply pw_below_drewN | apply below_drew1 | refine below_set ?_ GE1040101.out) | exact HB.out)⟩
                        · rw [if_neg c64] at H
                          have c64b0 : ((bt a0 x10_2) == 34) = false := beq_eq_false_iff_ne.mpr c64
                          have c64b1 : ((bt a0 x10_2) != 34) = true := bne_iff_ne.mpr c64
                          have HC68 := Aside0.mk H
                          clear H
                          have p58 : 0 ≤ (x10_2 : Int) := of_decide_eq_true (by first | (with_reducible assumption) | assumption)
                          have q58 : x10_2 < (a0.size : Int) := of_decide_eq_true (by first | (with_reducible assumption) | assumption)
                          have hx58 := bt_at a0 x10_2
                          replace p58 := eq_true p58
                          replace q58 := eq_true q58
                          have p63 : 0 ≤ (x10_2 : Int) := of_decide_eq_true (by first | (with_reducible assumption) | assumption)
                          have q63 : x10_2 < (a0.size : Int) := of_decide_eq_true (by first | (with_reducible assumption) | assumption)
                          have hx63 := bt_at a0 x10_2
                          replace p63 := eq_true p63
                          replace q63 := eq_true q63
                          go_upto_region 14 with (fail)
                          go_cut [95] (fun v95 wc => ∃ (kq : Nat) (x95_67 : Bool), v95 = .bool x95_67 ∧ Aside0 (larderref04_cell.j4 kq a0 a1 x10_2 x95_67 = some (r1, r2, r3, r4, r5, r6, r7)) ∧ Aside0 (kq ≤ kj48) ∧ Aside0 (wc.heap[gb1040101]? = some (.cells #[.int .i64 x1040102000_2, .int .i64 x1040102001_2, .int .i64 x1040102002_2, .int .i64 x1040102003_2, .int .i64 x1040102004_2] 46 (0, 0))) ∧ Aside0 (Below w.heap.size w wc))
                          case first =>
                            have H := HC68.out
                            clear HC68
                            by_cases c70 : (bt a0 x10_2) = 9
                            · rw [if_pos c70] at H
                              have c70b0 : ((bt a0 x10_2) == 9) = true := beq_iff_eq.mpr c70
                              have c70b1 : ((bt a0 x10_2) != 9) = false := bne_eq_false_iff_eq.mpr c70
                              clear c70
                              (first | rw [c70b0] | (simp only [i64_w, i32_w]; rw [c70b0]) | skip)
                              have H' := Aside0.mk H
                              clear H
                              have p69 : 0 ≤ (x10_2 : Int) := of_decide_eq_true (by first | (with_reducible assumption) | assumption)
                              have q69 : x10_2 < (a0.size : Int) := of_decide_eq_true (by first | (with_reducible assumption) | assumption)
                              have hx69 := bt_at a0 x10_2
                              replace p69 := eq_true p69
                              replace q69 := eq_true q69
                              go_wp2
                              go_meet
                              case rel => exact ⟨_, (true), (by first | rfl | (simp; done) | (simp [*]; done)), H', ⟨by have := HJ2.out; have := HK2.out; have := HJ48.out; first | omega | exact Nat.le_refl _⟩, ⟨by (with_reducible repeat (first | refine blk_drewN ?_ _ | refine blk_drew ?_ | refine blk_alloc ?_ _)); exact BK1040101.out⟩, ⟨by repeat (first | (with_reducible first | exact HB.out | apply below_alloc | apply pw_below_drewN | apply below_drew1 | refine below_set ?_ GE1040101.out) | exact HB.out)⟩⟩
                            · rw [if_neg c70] at H
                              have c70b0 : ((bt a0 x10_2) == 9) = false := beq_eq_false_iff_ne.mpr c70
                              have c70b1 : ((bt a0 x10_2) != 9) = true := bne_iff_ne.mpr c70
                              (first | rw [c70b0] | (simp only [i64_w, i32_w]; rw [c70b0]) | skip)
                              replace H := Option.bind_eq_some_iff.mp H
                              obtain ⟨t1040130, A720, H⟩ := H
                              replace H : (larderref04_cell.j4 kj48 a0 a1 x10_2 (!t1040130)) = some (r1, r2, r3, r4, r5, r6, r7) := H
                              have A72 := Aside0.mk A720
                              clear A720
                              have H' := Aside0.mk H
                              clear H
                              have p69 : 0 ≤ (x10_2 : Int) := of_decide_eq_true (by first | (with_reducible assumption) | assumption)
                              have q69 : x10_2 < (a0.size : Int) := of_decide_eq_true (by first | (with_reducible assumption) | assumption)
                              have hx69 := bt_at a0 x10_2
                              replace p69 := eq_true p69
                              replace q69 := eq_true q69
                              have p71 : 0 ≤ (x10_2 : Int) := of_decide_eq_true (by first | (with_reducible assumption) | assumption)
                              have q71 : x10_2 < (a0.size : Int) := of_decide_eq_true (by first | (with_reducible assumption) | assumption)
                              have hx71 := bt_at a0 x10_2
                              replace p71 := eq_true p71
                              replace q71 := eq_true q71
                              go_wp2_with (first | (go_at_call 96; (with_reducible refine (larderref04_may.calls (bt a0 x10_2) t1040130 _ A72.out).mono ?_); rintro e w' ⟨rfl, ⟨nd, rfl⟩⟩))
                              go_meet
                              case rel => exact ⟨_, (!t1040130), (by first | rfl | (simp; done) | (simp [*]; done)), H', ⟨by have := HJ2.out; have := HK2.out; have := HJ48.out; first | omega | exact Nat.le_refl _⟩, ⟨by (with_reducible repeat (first | refine blk_drewN ?_ _ | refine blk_drew ?_ | refine blk_alloc ?_ _)); exact BK1040101.out⟩, ⟨by repeat (first | (with_reducible first | exact HB.out | apply below_alloc | apply pw_below_drewN | apply below_drew1 | refine below_set ?_ GE1040101.out) | exact HB.out)⟩⟩
                          case rest =>
                            clear HC68
                            try clear c1
                            try clear c2
                            try clear p2
                            try clear q2
                            try clear hx2
                            try clear c3
                            try clear p3
                            try clear q3
                            try clear hx3
                            try clear c4
                            try clear c5
                            try clear c5b0
                            try clear p5
                            try clear q5
                            try clear hx5
                            try clear c6
                            try clear c6b0
                            try clear p6
                            try clear q6
                            try clear hx6
                            try clear c7
                            try clear p7
                            try clear q7
                            try clear hx7
                            try clear c8
                            try clear c10
                            try clear c11
                            try clear c13
                            try clear c15
                            try clear c15b0
                            try clear c15b1
                            try clear c16
                            try clear c16b0
                            try clear c16b1
                            try clear c17
                            try clear c19
                            try clear c19b0
                            try clear c20
                            try clear c20b0
                            try clear p21
                            try clear q21
                            try clear hx21
                            try clear c22
                            try clear c22b0
                            try clear c22b1
                            try clear c23
                            try clear p25
                            try clear q25
                            try clear hx25
                            try clear c26
                            try clear c28
                            try clear c30
                            try clear c37
                            try clear c37b0
                            try clear c38
                            try clear c38b0
                            try clear p39
                            try clear q39
                            try clear hx39
                            try clear c40
                            try clear c40b0
                            try clear c40b1
                            try clear c43
                            try clear c47
                            try clear c50
                            try clear c50b0
                            try clear c51
                            try clear c51b0
                            try clear p52
                            try clear q52
                            try clear hx52
                            try clear c53
                            try clear c53b0
                            try clear c53b1
                            try clear p54
                            try clear q54
                            try clear hx54
                            try clear c55
                            try clear c56
                            try clear c56b0
                            try clear c57
                            try clear c57b0
                            try clear p58
                            try clear q58
                            try clear hx58
                            try clear c59
                            try clear c59b0
                            try clear c59b1
                            try clear p63
                            try clear q63
                            try clear hx63
                            try clear c64
                            try clear c64b0
                            try clear c64b1
                            try clear p69
                            try clear q69
                            try clear hx69
                            try clear c70
                            try clear c70b0
                            try clear c70b1
                            try clear c71
                            try clear p71
                            try clear q71
                            try clear hx71
                            try clear hcz14_0
                            try clear hcz14_1
                            try clear hcz14_2
                            try clear hcz14_3
                            try clear hcz14_4
                            try clear hcz18_0
                            try clear hcz18_1
                            try clear hcz18_2
                            try clear hcz18_3
                            try clear hcz18_4
                            try clear hcz24_0
                            try clear hcz24_1
                            try clear hcz24_2
                            try clear hcz24_3
                            try clear hcz24_4
                            try clear hcz27_0
                            try clear hcz27_1
                            try clear hcz27_2
                            try clear hcz27_3
                            try clear hcz27_4
                            try clear hcz29_0
                            try clear hcz29_1
                            try clear hcz29_2
                            try clear hcz29_3
                            try clear hcz29_4
                            try clear hcz44_0
                            try clear hcz44_1
                            try clear hcz44_2
                            try clear hcz44_3
                            try clear hcz44_4
                            try clear hcz48_0
                            try clear hcz48_1
                            try clear hcz48_2
                            try clear hcz48_3
                            try clear hcz48_4
                            try clear hcz62_0
                            try clear hcz62_1
                            try clear hcz62_2
                            try clear hcz62_3
                            try clear hcz62_4
                            try clear hcz67_0
                            try clear hcz67_1
                            try clear hcz67_2
                            try clear hcz67_3
                            try clear hcz67_4
                            try clear hfz14_0
                            try clear hfz14_1
                            try clear hfz14_2
                            try clear hfz14_3
                            try clear hfz14_4
                            try clear hfz18_0
                            try clear hfz18_1
                            try clear hfz18_2
                            try clear hfz18_3
                            try clear hfz18_4
                            try clear hfz24_0
                            try clear hfz24_1
                            try clear hfz24_2
                            try clear hfz24_3
                            try clear hfz24_4
                            try clear hfz27_0
                            try clear hfz27_1
                            try clear hfz27_2
                            try clear hfz27_3
                            try clear hfz27_4
                            try clear hfz29_0
                            try clear hfz29_1
                            try clear hfz29_2
                            try clear hfz29_3
                            try clear hfz29_4
                            try clear hfz44_0
                            try clear hfz44_1
                            try clear hfz44_2
                            try clear hfz44_3
                            try clear hfz44_4
                            try clear hfz48_0
                            try clear hfz48_1
                            try clear hfz48_2
                            try clear hfz48_3
                            try clear hfz48_4
                            try clear hfz62_0
                            try clear hfz62_1
                            try clear hfz62_2
                            try clear hfz62_3
                            try clear hfz62_4
                            try clear hfz67_0
                            try clear hfz67_1
                            try clear hfz67_2
                            try clear hfz67_3
                            try clear hfz67_4
                            try clear p2
                            try clear p21
                            try clear p25
                            try clear p3
                            try clear p39
                            try clear p5
                            try clear p52
                            try clear p54
                            try clear p58
                            try clear p63
                            try clear p69
                            try clear p7
                            try clear p71
                            try clear q2
                            try clear q21
                            try clear q25
                            try clear q3
                            try clear q39
                            try clear q5
                            try clear q52
                            try clear q54
                            try clear q58
                            try clear q63
                            try clear q69
                            try clear q7
                            try clear q71
                            obtain ⟨kq, x95_67, rfl, HA, HJ67, BK1040101, HB⟩ := hcut
                            cases kq with
                            | zero => exact absurd HA.out (by simp [larderref04_cell.j4])
                            | succ kj67 =>
                              have H := HA.out
                              clear HA
                              simp only [larderref04_cell.j4] at H
                              by_cases c73 : x95_67 = true
                              · subst c73
                                have H1 : ((larderref04_placed.f kj67 a0 4 x10_2).bind fun bt1040131 => (some ((⟨#[]⟩ : ByteArray), 0, bt1040131.1, bt1040131.2.1, bt1040131.2.2.1, bt1040131.2.2.2.1, bt1040131.2.2.2.2))) = some (r1, r2, r3, r4, r5, r6, r7) := by rw [if_pos rfl] at H; exact H
                                clear H
                                have H := H1
                                clear H1
                                replace H := Option.bind_eq_some_iff.mp H
                                obtain ⟨⟨t1040131, t1040132, t1040133, t1040134, t1040135⟩, A740, H⟩ := H
                                replace H : (some ((⟨#[]⟩ : ByteArray), 0, t1040131, t1040132, t1040133, t1040134, t1040135)) = some (r1, r2, r3, r4, r5, r6, r7) := H
                                have A74 := Aside0.mk A740
                                clear A740
                                simp only [Option.some.injEq, Prod.mk.injEq] at H
                                obtain ⟨rfl, rfl, rfl, rfl, rfl, rfl, rfl⟩ := H
                                go_wp2_with (first | ((with_reducible refine gate_callee (f := 71) rfl ?_); refine goesL_ (some 109) rfl rfl Tryz.func71 (by kernel_rfl) rfl #[.string a0, .int .i64 4, .int .i64 x10_2] rfl (by (try simp only [List.map_toArray, List.map_cons, List.map_nil]); first | done | rfl | (simp only [List.length_drop, List.length_take]; rfl)) ?_; (with_reducible refine (larderref04_placed.calls kj67 a0 4 x10_2 t1040131 t1040132 t1040133 t1040134 t1040135 _ A74.out).mono ?_); rintro e w75 ⟨rfl, hb⟩; refine ⟨_, rfl, ?_⟩; have n0_ := Aside0.mk (blk_below (g := gb1040101) (o := .cells #[.int .i64 x1040102000_2, .int .i64 x1040102001_2, .int .i64 x1040102002_2, .int .i64 x1040102003_2, .int .i64 x1040102004_2] 46 (0, 0)) (by (with_reducible repeat (first | refine blk_drewN ?_ _ | refine blk_drew ?_ | refine blk_alloc ?_ _)); exact BK1040101.out) hb); have n1_ := Aside0.mk (below_step (by repeat (first | (with_reducible first | exact HB.out | apply below_alloc | apply pw_below_drewN | apply below_drew1 | refine below_set ?_ GE1040101.out) | exact HB.out)) hb); clear BK1040101; clear HB; have BK1040101 := n0_; have HB := n1_; clear n0_ n1_; (try clear hb); (try clear hb2); (try clear hk); (try clear hi); have hcz76_0 : w75.cell? ⟨gb1040101, 0, none⟩ = some (.int .i64 x1040102000_2) := (blk_cell BK1040101.out 0).trans rfl; have hcz76_1 : w75.cell? ⟨gb1040101, 1, none⟩ = some (.int .i64 x1040102001_2) := (blk_cell BK1040101.out 1).trans rfl; have hcz76_2 : w75.cell? ⟨gb1040101, 2, none⟩ = some (.int .i64 x1040102002_2) := (blk_cell BK1040101.out 2).trans rfl; have hcz76_3 : w75.cell? ⟨gb1040101, 3, none⟩ = some (.int .i64 x1040102003_2) := (blk_cell BK1040101.out 3).trans rfl; have hcz76_4 : w75.cell? ⟨gb1040101, 4, none⟩ = some (.int .i64 x1040102004_2) := (blk_cell BK1040101.out 4).trans rfl; have hfz76_0 := blk_frozen BK1040101.out 0; have hfz76_1 := blk_frozen BK1040101.out 1; have hfz76_2 := blk_frozen BK1040101.out 2; have hfz76_3 := blk_frozen BK1040101.out 3; have hfz76_4 := blk_frozen BK1040101.out 4))
                                refine bodyPost_ret (results_list (rs := [.tmp 4, .tmp 5, .cell 6 46]) rfl (by simp) (.tmp (.tmp (.cell gb1040101 46 #[.int .i64 t1040131, .int .i64 t1040132, .int .i64 t1040133, .int .i64 t1040134, .int .i64 t1040135] (0, 0) _ rfl (by (with_reducible repeat (first | refine blk_drewN ?_ _ | refine blk_drew ?_ | refine blk_alloc ?_ _)); refine blk_put (cs := #[.int .i64 t1040131, .int .i64 t1040132, .int .i64 t1040133, .int .i64 t1040134, .int .i64 x1040102004_2]) ?_ 4 _ rfl; (with_reducible repeat (first | refine blk_drewN ?_ _ | refine blk_drew ?_ | refine blk_alloc ?_ _)); refine blk_put (cs := #[.int .i64 t1040131, .int .i64 t1040132, .int .i64 t1040133, .int .i64 x1040102003_2, .int .i64 x1040102004_2]) ?_ 3 _ rfl; (with_reducible repeat (first | refine blk_drewN ?_ _ | refine blk_drew ?_ | refine blk_alloc ?_ _)); refine blk_put (cs := #[.int .i64 t1040131, .int .i64 t1040132, .int .i64 x1040102002_2, .int .i64 x1040102003_2, .int .i64 x1040102004_2]) ?_ 2 _ rfl; (with_reducible repeat (first | refine blk_drewN ?_ _ | refine blk_drew ?_ | refine blk_alloc ?_ _)); refine blk_put (cs := #[.int .i64 t1040131, .int .i64 x1040102001_2, .int .i64 x1040102002_2, .int .i64 x1040102003_2, .int .i64 x1040102004_2]) ?_ 1 _ rfl; (with_reducible repeat (first | refine blk_drewN ?_ _ | refine blk_drew ?_ | refine blk_alloc ?_ _)); refine blk_put (cs := #[.int .i64 x1040102000_2, .int .i64 x1040102001_2, .int .i64 x1040102002_2, .int .i64 x1040102003_2, .int .i64 x1040102004_2]) ?_ 0 _ rfl; (with_reducible repeat (first | refine blk_drewN ?_ _ | refine blk_drew ?_ | refine blk_alloc ?_ _)); exact BK1040101.out) Tryz.underlying46 rfl (by kernel_rfl) .nil)))) rfl ?_
                                exact ⟨by first | rfl | (simp [errW_none, errW_some] <;> rfl) | (simp [*, errW_none, errW_some] <;> rfl), by repeat (first | (with_reducible first | exact HB.out | apply below_alloc | apply pw_below_drewN | apply below_drew1 | refine below_set ?_ GE1040101.out) | exact HB.out)⟩
                              · replace c73 := Bool.eq_false_iff.mpr c73
                                subst c73
                                have H1 : (if (wrap64 (x10_2 - a1)) = 4096 then ((larderref04_placed.f kj67 a0 5 x10_2).bind fun bt1040136 => (some ((⟨#[]⟩ : ByteArray), 0, bt1040136.1, bt1040136.2.1, bt1040136.2.2.1, bt1040136.2.2.2.1, bt1040136.2.2.2.2))) else (larderref04_cell.l0 kj67 a0 a1 (wrap64 (x10_2 + 1)))) = some (r1, r2, r3, r4, r5, r6, r7) := by rw [if_neg (show ¬ (false = true) by decide)] at H; exact H
                                clear H
                                have H := H1
                                clear H1
                                by_cases c77 : (wrap64 (x10_2 - a1)) = 4096
                                · rw [if_pos c77] at H
                                  have c77b0 : ((wrap64 (x10_2 - a1)) == 4096) = true := beq_iff_eq.mpr c77
                                  have c77b1 : ((wrap64 (x10_2 - a1)) != 4096) = false := bne_eq_false_iff_eq.mpr c77
                                  clear c77
                                  replace H := Option.bind_eq_some_iff.mp H
                                  obtain ⟨⟨t1040136, t1040137, t1040138, t1040139, t1040140⟩, A780, H⟩ := H
                                  replace H : (some ((⟨#[]⟩ : ByteArray), 0, t1040136, t1040137, t1040138, t1040139, t1040140)) = some (r1, r2, r3, r4, r5, r6, r7) := H
                                  have A78 := Aside0.mk A780
                                  clear A780
                                  simp only [Option.some.injEq, Prod.mk.injEq] at H
                                  obtain ⟨rfl, rfl, rfl, rfl, rfl, rfl, rfl⟩ := H
                                  go_wp2_with (first | ((with_reducible refine gate_callee (f := 71) rfl ?_); refine goesL_ (some 117) rfl rfl Tryz.func71 (by kernel_rfl) rfl #[.string a0, .int .i64 5, .int .i64 x10_2] rfl (by (try simp only [List.map_toArray, List.map_cons, List.map_nil]); first | done | rfl | (simp only [List.length_drop, List.length_take]; rfl)) ?_; (with_reducible refine (larderref04_placed.calls kj67 a0 5 x10_2 t1040136 t1040137 t1040138 t1040139 t1040140 _ A78.out).mono ?_); rintro e w79 ⟨rfl, hb⟩; refine ⟨_, rfl, ?_⟩; have n0_ := Aside0.mk (blk_below (g := gb1040101) (o := .cells #[.int .i64 x1040102000_2, .int .i64 x1040102001_2, .int .i64 x1040102002_2, .int .i64 x1040102003_2, .int .i64 x1040102004_2] 46 (0, 0)) (by (with_reducible repeat (first | refine blk_drewN ?_ _ | refine blk_drew ?_ | refine blk_alloc ?_ _)); exact BK1040101.out) hb); have n1_ := Aside0.mk (below_step (by repeat (first | (with_reducible first | exact HB.out | apply below_alloc | apply pw_below_drewN | apply below_drew1 | refine below_set ?_ GE1040101.out) | exact HB.out)) hb); clear BK1040101; clear HB; have BK1040101 := n0_; have HB := n1_; clear n0_ n1_; (try clear hb); (try clear hb2); (try clear hk); (try clear hi); have hcz80_0 : w79.cell? ⟨gb1040101, 0, none⟩ = some (.int .i64 x1040102000_2) := (blk_cell BK1040101.out 0).trans rfl; have hcz80_1 : w79.cell? ⟨gb1040101, 1, none⟩ = some (.int .i64 x1040102001_2) := (blk_cell BK1040101.out 1).trans rfl; have hcz80_2 : w79.cell? ⟨gb1040101, 2, none⟩ = some (.int .i64 x1040102002_2) := (blk_cell BK1040101.out 2).trans rfl; have hcz80_3 : w79.cell? ⟨gb1040101, 3, none⟩ = some (.int .i64 x1040102003_2) := (blk_cell BK1040101.out 3).trans rfl; have hcz80_4 : w79.cell? ⟨gb1040101, 4, none⟩ = some (.int .i64 x1040102004_2) := (blk_cell BK1040101.out 4).trans rfl; have hfz80_0 := blk_frozen BK1040101.out 0; have hfz80_1 := blk_frozen BK1040101.out 1; have hfz80_2 := blk_frozen BK1040101.out 2; have hfz80_3 := blk_frozen BK1040101.out 3; have hfz80_4 := blk_frozen BK1040101.out 4))
                                  refine bodyPost_ret (results_list (rs := [.tmp 4, .tmp 5, .cell 6 46]) rfl (by simp) (.tmp (.tmp (.cell gb1040101 46 #[.int .i64 t1040136, .int .i64 t1040137, .int .i64 t1040138, .int .i64 t1040139, .int .i64 t1040140] (0, 0) _ rfl (by (with_reducible repeat (first | refine blk_drewN ?_ _ | refine blk_drew ?_ | refine blk_alloc ?_ _)); refine blk_put (cs := #[.int .i64 t1040136, .int .i64 t1040137, .int .i64 t1040138, .int .i64 t1040139, .int .i64 x1040102004_2]) ?_ 4 _ rfl; (with_reducible repeat (first | refine blk_drewN ?_ _ | refine blk_drew ?_ | refine blk_alloc ?_ _)); refine blk_put (cs := #[.int .i64 t1040136, .int .i64 t1040137, .int .i64 t1040138, .int .i64 x1040102003_2, .int .i64 x1040102004_2]) ?_ 3 _ rfl; (with_reducible repeat (first | refine blk_drewN ?_ _ | refine blk_drew ?_ | refine blk_alloc ?_ _)); refine blk_put (cs := #[.int .i64 t1040136, .int .i64 t1040137, .int .i64 x1040102002_2, .int .i64 x1040102003_2, .int .i64 x1040102004_2]) ?_ 2 _ rfl; (with_reducible repeat (first | refine blk_drewN ?_ _ | refine blk_drew ?_ | refine blk_alloc ?_ _)); refine blk_put (cs := #[.int .i64 t1040136, .int .i64 x1040102001_2, .int .i64 x1040102002_2, .int .i64 x1040102003_2, .int .i64 x1040102004_2]) ?_ 1 _ rfl; (with_reducible repeat (first | refine blk_drewN ?_ _ | refine blk_drew ?_ | refine blk_alloc ?_ _)); refine blk_put (cs := #[.int .i64 x1040102000_2, .int .i64 x1040102001_2, .int .i64 x1040102002_2, .int .i64 x1040102003_2, .int .i64 x1040102004_2]) ?_ 0 _ rfl; (with_reducible repeat (first | refine blk_drewN ?_ _ | refine blk_drew ?_ | refine blk_alloc ?_ _)); exact BK1040101.out) Tryz.underlying46 rfl (by kernel_rfl) .nil)))) rfl ?_
                                  exact ⟨by first | rfl | (simp [errW_none, errW_some] <;> rfl) | (simp [*, errW_none, errW_some] <;> rfl), by repeat (first | (with_reducible first | exact HB.out | apply below_alloc | apply pw_below_drewN | apply below_drew1 | refine below_set ?_ GE1040101.out) | exact HB.out)⟩
                                · rw [if_neg c77] at H
                                  have c77b0 : ((wrap64 (x10_2 - a1)) == 4096) = false := beq_eq_false_iff_ne.mpr c77
                                  have c77b1 : ((wrap64 (x10_2 - a1)) != 4096) = true := bne_iff_ne.mpr c77
                                  have H' := Aside0.mk H
                                  clear H
                                  go_wp2
                                  go_roundg kj67
                                  case measure => have := HJ2.out; have := HK2.out; have := HJ48.out; have := HJ67.out; omega
                                  case rel => exact ⟨(wrap64 (x10_2 + 1)), (x1040102000_2), (x1040102001_2), (x1040102002_2), (x1040102003_2), (x1040102004_2), (by first | rfl | (simp; done) | (simp [*]; done)), H', ⟨by have := HJ2.out; have := HK2.out; have := HJ48.out; have := HJ67.out; omega⟩, ⟨by (with_reducible repeat (first | refine blk_drewN ?_ _ | refine blk_drew ?_ | refine blk_alloc ?_ _)); exact BK1040101.out⟩, ⟨by repeat (first | (with_reducible first | exact HB.out | apply below_alloc | apply pw_below_drewN | apply below_drew1 | refine below_set ?_ GE1040101.out) | exact HB.out)⟩⟩
                    · rw [if_neg c57] at H
                      exact absurd H (by simp)
                  · rw [if_neg c56] at H
                    exact absurd H (by simp)
                · replace c55 := Bool.eq_false_iff.mpr c55
                  subst c55
                  have H1 : (if 0 ≤ a1 then (if a1 ≤ x10_2 then (if x10_2 ≤ (a0.size : Int) then (some (a0.extract (a1 : Int).toNat (x10_2 : Int).toNat, x10_2, 0, 0, 0, 0, 0)) else (none)) else (none)) else (none)) = some (r1, r2, r3, r4, r5, r6, r7) := by rw [if_neg (show ¬ (false = true) by decide)] at H; exact H
                  clear H
                  have H := H1
                  clear H1
                  by_cases c81 : 0 ≤ a1
                  · rw [if_pos c81] at H
                    have c81b0 := eq_true c81
                    have c81b1 : decide (0 ≤ a1) = true := decide_eq_true c81
                    clear c81
                    by_cases c82 : a1 ≤ x10_2
                    · rw [if_pos c82] at H
                      have c82b0 := eq_true c82
                      have c82b1 : decide (a1 ≤ x10_2) = true := decide_eq_true c82
                      clear c82
                      by_cases c83 : x10_2 ≤ (a0.size : Int)
                      · rw [if_pos c83] at H
                        have c83b0 := eq_true c83
                        have c83b1 : decide (x10_2 ≤ (a0.size : Int)) = true := decide_eq_true c83
                        clear c83
                        simp only [Option.some.injEq, Prod.mk.injEq] at H
                        obtain ⟨rfl, rfl, rfl, rfl, rfl, rfl, rfl⟩ := H
                        have hcz84_0 : wc.cell? ⟨gb1040101, 0, none⟩ = some (.int .i64 x1040102000_2) := (blk_cell BK1040101.out 0).trans rfl
                        have hcz84_1 : wc.cell? ⟨gb1040101, 1, none⟩ = some (.int .i64 x1040102001_2) := (blk_cell BK1040101.out 1).trans rfl
                        have hcz84_2 : wc.cell? ⟨gb1040101, 2, none⟩ = some (.int .i64 x1040102002_2) := (blk_cell BK1040101.out 2).trans rfl
                        have hcz84_3 : wc.cell? ⟨gb1040101, 3, none⟩ = some (.int .i64 x1040102003_2) := (blk_cell BK1040101.out 3).trans rfl
                        have hcz84_4 : wc.cell? ⟨gb1040101, 4, none⟩ = some (.int .i64 x1040102004_2) := (blk_cell BK1040101.out 4).trans rfl
                        have hfz84_0 := blk_frozen BK1040101.out 0
                        have hfz84_1 := blk_frozen BK1040101.out 1
                        have hfz84_2 := blk_frozen BK1040101.out 2
                        have hfz84_3 := blk_frozen BK1040101.out 3
                        have hfz84_4 := blk_frozen BK1040101.out 4
                        go_wp2
                        refine bodyPost_ret (results_list (rs := [.tmp 4, .tmp 5, .cell 6 46]) rfl (by simp) (.tmp (.tmp (.cell gb1040101 46 #[.int .i64 0, .int .i64 0, .int .i64 0, .int .i64 0, .int .i64 0] (0, 0) _ rfl (by (with_reducible repeat (first | refine blk_drewN ?_ _ | refine blk_drew ?_ | refine blk_alloc ?_ _)); refine blk_put (cs := #[.int .i64 0, .int .i64 0, .int .i64 0, .int .i64 0, .int .i64 x1040102004_2]) ?_ 4 _ rfl; (with_reducible repeat (first | refine blk_drewN ?_ _ | refine blk_drew ?_ | refine blk_alloc ?_ _)); refine blk_put (cs := #[.int .i64 0, .int .i64 0, .int .i64 0, .int .i64 x1040102003_2, .int .i64 x1040102004_2]) ?_ 3 _ rfl; (with_reducible repeat (first | refine blk_drewN ?_ _ | refine blk_drew ?_ | refine blk_alloc ?_ _)); refine blk_put (cs := #[.int .i64 0, .int .i64 0, .int .i64 x1040102002_2, .int .i64 x1040102003_2, .int .i64 x1040102004_2]) ?_ 2 _ rfl; (with_reducible repeat (first | refine blk_drewN ?_ _ | refine blk_drew ?_ | refine blk_alloc ?_ _)); refine blk_put (cs := #[.int .i64 0, .int .i64 x1040102001_2, .int .i64 x1040102002_2, .int .i64 x1040102003_2, .int .i64 x1040102004_2]) ?_ 1 _ rfl; (with_reducible repeat (first | refine blk_drewN ?_ _ | refine blk_drew ?_ | refine blk_alloc ?_ _)); refine blk_put (cs := #[.int .i64 x1040102000_2, .int .i64 x1040102001_2, .int .i64 x1040102002_2, .int .i64 x1040102003_2, .int .i64 x1040102004_2]) ?_ 0 _ rfl; (with_reducible repeat (first | refine blk_drewN ?_ _ | refine blk_drew ?_ | refine blk_alloc ?_ _)); exact BK1040101.out) Tryz.underlying46 rfl (by kernel_rfl) .nil)))) rfl ?_
                        exact ⟨by first | rfl | (simp [errW_none, errW_some] <;> rfl) | (simp [*, errW_none, errW_some] <;> rfl), by repeat (first | (with_reducible first | exact HB.out | apply below_alloc | apply pw_below_drewN | apply below_drew1 | refine below_set ?_ GE1040101.out) | exact HB.out)⟩
                      · rw [if_neg c83] at H
                        exact absurd H (by simp)
                    · rw [if_neg c82] at H
                      exact absurd H (by simp)
                  · rw [if_neg c81] at H
                    exact absurd H (by simp)

end Go.Proofs.YtappphffbnkloaaGreatDoor.GS
