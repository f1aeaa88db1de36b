-- written by a program (gp.py over the kit's print) for this claim
import Derived.Test.YtappphffbnkloaaGreatDoorGSx0
import Derived.Test.YtappphffbnkloaaGreatDoorGSxf71
import Derived.Test.YtappphffbnkloaaGreatDoorGSxf104
namespace Go.Proofs.YtappphffbnkloaaGreatDoor.GS
open Go.RowKit Go.Proofs.YtappphffbnkloaaGreatDoorW.PrintWords Go.Proofs.YtappphffbnkloaaGreatDoorW.PrintLast Go.Proofs.YtappphffbnkloaaGreatDoor.Ext
attribute [local go_sem] max2_int min2_int max_two min_two   -- for this text alone
set_option linter.unusedVariables false
set_option linter.unusedSimpArgs false

mutual
def larderref04_row.l0 : Nat → ByteArray → List ByteArray → Int → Bool → Option (List ByteArray × Int × Int × Int × Int × Int × Int)
  | 0, _, _, _, _ => none
  | k + 1, x0, x7, x8, x9 => if x9 = true then ((larderref04_cell.f k x0 x8).bind fun bt900102 => (if bt900102.2.2.1 = 0 then (if x7.length < 8796093022208 then ((some (x7 ++ [bt900102.1] : List ByteArray)).bind fun y900110 => (if bt900102.2.1 < (x0.size : Int) then (if 0 ≤ bt900102.2.1 then (larderref04_row.j1 k x0 y900110 bt900102.2.1 ((bt x0 bt900102.2.1) == 44)) else (none)) else (larderref04_row.j1 k x0 y900110 bt900102.2.1 false))) else (none)) else (some (([] : List ByteArray), 0, bt900102.2.2.1, bt900102.2.2.2.1, bt900102.2.2.2.2.1, bt900102.2.2.2.2.2.1, bt900102.2.2.2.2.2.2)))) else (some (x7, x8, 0, 0, 0, 0, 0))
def larderref04_row.j1 : Nat → ByteArray → List ByteArray → Int → Bool → Option (List ByteArray × Int × Int × Int × Int × Int × Int)
  | 0, _, _, _, _ => none
  | k + 1, x0, x7, x8, x9 => if x9 = true then (larderref04_row.j2 k x0 x7 x8 x9 ((x7.length : Int) == 64)) else (larderref04_row.j2 k x0 x7 x8 x9 false)
def larderref04_row.j2 : Nat → ByteArray → List ByteArray → Int → Bool → Bool → Option (List ByteArray × Int × Int × Int × Int × Int × Int)
  | 0, _, _, _, _, _ => none
  | k + 1, x0, x7, x8, x9, x46 => if x46 = true then ((larderref04_placed.f k x0 6 x8).bind fun bt900113 => (some (([] : List ByteArray), 0, bt900113.1, bt900113.2.1, bt900113.2.2.1, bt900113.2.2.2.1, bt900113.2.2.2.2))) else (if x9 = true then (larderref04_row.l0 k x0 x7 (wrap64 (x8 + 1)) x9) else (larderref04_row.l0 k x0 x7 x8 x9))
end
def larderref04_row.f (k : Nat) (a0 : ByteArray) (a1 : Int) : Option (List ByteArray × Int × Int × Int × Int × Int × Int) := larderref04_row.l0 k a0 ([] : List ByteArray) a1 true
theorem larderref04_row.mono_l : ∀ k, (∀ y0 y1 y2 y3, LeO (larderref04_row.l0 k y0 y1 y2 y3) (larderref04_row.l0 (k + 1) y0 y1 y2 y3)) ∧ (∀ y0 y1 y2 y3, LeO (larderref04_row.j1 k y0 y1 y2 y3) (larderref04_row.j1 (k + 1) y0 y1 y2 y3)) ∧ (∀ y0 y1 y2 y3 y4, LeO (larderref04_row.j2 k y0 y1 y2 y3 y4) (larderref04_row.j2 (k + 1) y0 y1 y2 y3 y4))
  | 0 => ⟨fun _ _ _ _ r h => by simp [larderref04_row.l0] at h, fun _ _ _ _ r h => by simp [larderref04_row.j1] at h, fun _ _ _ _ _ r h => by simp [larderref04_row.j2] at h⟩
  | k + 1 => by
    obtain ⟨ih0, ih1, ih2⟩ := larderref04_row.mono_l k
    refine ⟨?_, ?_, ?_⟩
    · intro y0 y1 y2 y3
      unfold larderref04_row.l0
      repeat' first
      | (with_reducible exact ih0 _ _ _ _)
      | (with_reducible exact ih1 _ _ _ _)
      | (with_reducible exact ih2 _ _ _ _ _)
      | (with_reducible exact larderref04_cell.mono _ _ _)
      | (with_reducible exact larderref04_placed.mono _ _ _ _)
      | (with_reducible exact LeO.refl _)
      | (with_reducible exact LeO.none _)
      | (with_reducible refine LeO.ite ?_ ?_)
      | (with_reducible refine LeO.bind ?_ (fun _ => ?_))
      | exact ih0 _ _ _ _
      | exact ih1 _ _ _ _
      | exact ih2 _ _ _ _ _
      | exact larderref04_cell.mono _ _ _
      | exact larderref04_placed.mono _ _ _ _
      | exact LeO.none _
      | refine LeO.ite ?_ ?_
      | refine LeO.bind ?_ (fun _ => ?_)
    · intro y0 y1 y2 y3
      unfold larderref04_row.j1
      repeat' first
      | (with_reducible exact ih0 _ _ _ _)
      | (with_reducible exact ih1 _ _ _ _)
      | (with_reducible exact ih2 _ _ _ _ _)
      | (with_reducible exact larderref04_cell.mono _ _ _)
      | (with_reducible exact larderref04_placed.mono _ _ _ _)
      | (with_reducible exact LeO.refl _)
      | (with_reducible exact LeO.none _)
      | (with_reducible refine LeO.ite ?_ ?_)
      | (with_reducible refine LeO.bind ?_ (fun _ => ?_))
      | exact ih0 _ _ _ _
      | exact ih1 _ _ _ _
      | exact ih2 _ _ _ _ _
      | exact larderref04_cell.mono _ _ _
      | exact larderref04_placed.mono _ _ _ _
      | exact LeO.none _
      | refine LeO.ite ?_ ?_
      | refine LeO.bind ?_ (fun _ => ?_)
    · intro y0 y1 y2 y3 y4
      unfold larderref04_row.j2
      repeat' first
      | (with_reducible exact ih0 _ _ _ _)
      | (with_reducible exact ih1 _ _ _ _)
      | (with_reducible exact ih2 _ _ _ _ _)
      | (with_reducible exact larderref04_cell.mono _ _ _)
      | (with_reducible exact larderref04_placed.mono _ _ _ _)
      | (with_reducible exact LeO.refl _)
      | (with_reducible exact LeO.none _)
      | (with_reducible refine LeO.ite ?_ ?_)
      | (with_reducible refine LeO.bind ?_ (fun _ => ?_))
      | exact ih0 _ _ _ _
      | exact ih1 _ _ _ _
      | exact ih2 _ _ _ _ _
      | exact larderref04_cell.mono _ _ _
      | exact larderref04_placed.mono _ _ _ _
      | exact LeO.none _
      | refine LeO.ite ?_ ?_
      | refine LeO.bind ?_ (fun _ => ?_)
theorem larderref04_row.mono : ∀ a0 a1 k, LeO (larderref04_row.f k a0 a1) (larderref04_row.f (k + 1) a0 a1) := by
  intro a0 a1 k
  obtain ⟨ih0, ih1, ih2⟩ := larderref04_row.mono_l k
  unfold larderref04_row.f
  repeat' first
      | (with_reducible exact ih0 _ _ _ _)
      | (with_reducible exact ih1 _ _ _ _)
      | (with_reducible exact ih2 _ _ _ _ _)
      | (with_reducible exact larderref04_cell.mono _ _ _)
      | (with_reducible exact larderref04_placed.mono _ _ _ _)
      | (with_reducible exact LeO.refl _)
      | (with_reducible exact LeO.none _)
      | (with_reducible refine LeO.ite ?_ ?_)
      | (with_reducible refine LeO.bind ?_ (fun _ => ?_))
      | exact ih0 _ _ _ _
      | exact ih1 _ _ _ _
      | exact ih2 _ _ _ _ _
      | exact larderref04_cell.mono _ _ _
      | exact larderref04_placed.mono _ _ _ _
      | exact LeO.none _
      | refine LeO.ite ?_ ?_
      | refine LeO.bind ?_ (fun _ => ?_)
set_option maxHeartbeats 8000000 in
set_option maxRecDepth 100000 in
theorem larderref04_row.calls (k : Nat) (a0 : ByteArray) (a1 : Int) (r1 : List ByteArray) (r2 : Int) (r3 : Int) (r4 : Int) (r5 : Int) (r6 : Int) (r7 : Int) (w : World) (h : larderref04_row.f k a0 a1 = some (r1, r2, r3, r4, r5, r6, r7)) :
    Calls Tryz.prog 90 #[.string a0, .int .i64 a1] w fun e w' => ∃ v0_ : Value, e = .returned (.tuple #[v0_, .int .i64 r2, .agg #[.int .i64 r3, .int .i64 r4, .int .i64 r5, .int .i64 r6, .int .i64 r7]]) ∧ Kd.R Kd.string 9 w' w.heap.size (fun _ => True) v0_ r1 ∧ Below w.heap.size w w' := by
  have hu46 := Tryz.underlying46
  have HB := Aside0.mk (Below.refl w.heap.size w)
  have H : (larderref04_row.l0 k a0 ([] : List ByteArray) a1 true) = some (r1, r2, r3, r4, r5, r6, r7) := h
  clear h
  have H' := Aside0.mk H
  clear H
  go_enter Tryz.func90, Tryz.ntmps90
  go_wp2_with (first | ((with_reducible refine gate_dst (N := 6) rfl ?_); refine box_event ?hg (N := 6) ?hd (cs := #[.int .i64 0, .int .i64 0, .int .i64 0, .int .i64 0, .int .i64 0]) (t := 46) ?hr ?_; (case hd => rfl); (case hg => rfl); (case hr => first | (go_simp; done) | (go_simp; rfl)); intro gb900101 hg w3 hbox hb; have n0_ := Aside0.mk (below_step (by repeat (first | (with_reducible first | exact HB.out | apply below_alloc | apply pw_below_drewN | apply below_drew1) | exact HB.out)) hb); have n1_ := Aside0.mk (hbox); have n2_ := Aside0.mk ((by rw [hg]; exact (below_size (by repeat (first | (with_reducible first | exact HB.out | apply below_alloc | apply pw_below_drewN | apply below_drew1) | exact HB.out))) : w.heap.size ≤ gb900101)); have n3_ := Aside0.mk ((by rw [hg]; exact (below_size (by repeat (first | (with_reducible first | exact HB.out | apply below_alloc | apply pw_below_drewN | apply below_drew1) | exact HB.out))) : w.heap.size ≤ gb900101)); clear HB; have HB := n0_; have BK900101 := n1_; have GW900101 := n2_; have GE900101 := n3_; clear n0_ n1_ n2_ n3_; clear hb hbox hg))
  go_loopg [7, 8, 9] k (fun kq v7 v8 v9 w' => ∃ (x7_1 : List ByteArray) (x8_1 : Int) (x9_1 : Bool) (x900102000_1 : Int) (x900102001_1 : Int) (x900102002_1 : Int) (x900102003_1 : Int) (x900102004_1 : Int), v8 = .int .i64 x8_1 ∧ v9 = .bool x9_1 ∧ Aside0 (larderref04_row.l0 kq a0 x7_1 x8_1 x9_1 = some (r1, r2, r3, r4, r5, r6, r7)) ∧ Aside0 (kq ≤ k) ∧ Aside0 (Kd.R Kd.string 9 w' w.heap.size (fun _ => True) v7 x7_1) ∧ Aside0 (w'.heap[gb900101]? = some (.cells #[.int .i64 x900102000_1, .int .i64 x900102001_1, .int .i64 x900102002_1, .int .i64 x900102003_1, .int .i64 x900102004_1] 46 (0, 0))) ∧ Aside0 (Below w.heap.size w w'))
  case atStart => exact ⟨(([] : List ByteArray)), (a1), (true), (0), (0), (0), (0), (0), (by first | rfl | (simp; done) | (simp [*]; done)), (by first | rfl | (simp; done) | (simp [*]; done)), H', ⟨Nat.le_refl _⟩, ⟨by first | exact Kd.R_nil _ _ _ _ _ | exact Kd.N_nil _ _ _ _ _ | exact Kd.V_nil _ _ _ _ _ | exact Kd.Q_nil _ _ _ _ _ | exact Kd.S_nil _ _ _ _ _⟩, ⟨by (with_reducible repeat (first | refine blk_drewN ?_ _ | refine blk_drew ?_ | refine blk_alloc ?_ _)); exact BK900101.out⟩, ⟨by repeat (first | (with_reducible first | exact HB.out | apply below_alloc | apply pw_below_drewN | apply below_drew1 | refine below_set ?_ GE900101.out) | exact HB.out)⟩⟩
  case round =>
    clear H'
    try clear p2
    obtain ⟨x7_1, x8_1, x9_1, x900102000_1, x900102001_1, x900102002_1, x900102003_1, x900102004_1, rfl, rfl, HA, HK1, HO_7, BK900101, HB⟩ := hrel
    cases gk with
    | zero => exact absurd HA.out (by simp [larderref04_row.l0])
    | succ k1 =>
      have H := HA.out
      clear HA
      simp only [larderref04_row.l0] at H
      by_cases c4 : x9_1 = true
      · subst c4
        have H1 : ((larderref04_cell.f k1 a0 x8_1).bind fun bt900102 => (if bt900102.2.2.1 = 0 then (if x7_1.length < 8796093022208 then ((some (x7_1 ++ [bt900102.1] : List ByteArray)).bind fun y900110 => (if bt900102.2.1 < (a0.size : Int) then (if 0 ≤ bt900102.2.1 then (larderref04_row.j1 k1 a0 y900110 bt900102.2.1 ((bt a0 bt900102.2.1) == 44)) else (none)) else (larderref04_row.j1 k1 a0 y900110 bt900102.2.1 false))) else (none)) else (some (([] : List ByteArray), 0, bt900102.2.2.1, bt900102.2.2.2.1, bt900102.2.2.2.2.1, bt900102.2.2.2.2.2.1, bt900102.2.2.2.2.2.2)))) = some (r1, r2, r3, r4, r5, r6, r7) := by rw [if_pos rfl] at H; exact H
        clear H
        have H := H1
        clear H1
        replace H := Option.bind_eq_some_iff.mp H
        obtain ⟨⟨t900102, t900103, t900104, t900105, t900106, t900107, t900108⟩, A50, H⟩ := H
        replace H : (if t900104 = 0 then (if x7_1.length < 8796093022208 then ((some (x7_1 ++ [t900102] : List ByteArray)).bind fun y900110 => (if t900103 < (a0.size : Int) then (if 0 ≤ t900103 then (larderref04_row.j1 k1 a0 y900110 t900103 ((bt a0 t900103) == 44)) else (none)) else (larderref04_row.j1 k1 a0 y900110 t900103 false))) else (none)) else (some (([] : List ByteArray), 0, t900104, t900105, t900106, t900107, t900108))) = some (r1, r2, r3, r4, r5, r6, r7) := H
        have A5 := Aside0.mk A50
        clear A50
        by_cases c6 : t900104 = 0
        · rw [if_pos c6] at H
          have c6b0 : (t900104 == 0) = true := beq_iff_eq.mpr c6
          have c6b1 : (t900104 != 0) = false := bne_eq_false_iff_eq.mpr c6
          clear c6
          by_cases c7 : x7_1.length < 8796093022208
          · rw [if_pos c7] at H
            have LMc7 := Aside0.mk c7
            clear c7
            obtain ⟨y900110, hy900110⟩ : ∃ y_ : List ByteArray, y_ = (x7_1 ++ [t900102]) := ⟨_, rfl⟩
            replace H : (if t900103 < (a0.size : Int) then (if 0 ≤ t900103 then (larderref04_row.j1 k1 a0 y900110 t900103 ((bt a0 t900103) == 44)) else (none)) else (larderref04_row.j1 k1 a0 y900110 t900103 false)) = some (r1, r2, r3, r4, r5, r6, r7) := by first | (rw [hy900110]; with_reducible exact H) | (have H2_ := (Option.bind_some _ _).symm.trans H; rw [hy900110]; with_reducible exact H2_) | (have H2_ := (Option.bind_some _ _).symm.trans H; with_reducible exact H2_) | with_reducible exact H | (rw [hy900110]; exact H) | exact H
            have Ny900110 := Aside0.mk hy900110
            clear hy900110
            have HC8 := Aside0.mk H
            clear H
            go_upto_region 10 with (first | ((with_reducible refine gate_callee (f := 104) rfl ?_); refine goesL_ (some 18) rfl rfl Tryz.func104 (by kernel_rfl) rfl #[.string a0, .int .i64 x8_1] rfl (by (try simp only [List.map_toArray, List.map_cons, List.map_nil]); first | done | rfl | (simp only [List.length_drop, List.length_take]; rfl)) ?_; (with_reducible refine (larderref04_cell.calls k1 a0 x8_1 t900102 t900103 t900104 t900105 t900106 t900107 t900108 _ A5.out).mono ?_); rintro e w9 ⟨rfl, hb⟩; refine ⟨_, rfl, ?_⟩; have n0_ := Aside0.mk (Kd.R_below (by (with_reducible repeat (first | apply Kd.R_alloc | apply Kd.R_drewN | apply Kd.R_drew)); exact HO_7.out) hb); have n1_ := Aside0.mk (blk_below (g := gb900101) (o := .cells #[.int .i64 x900102000_1, .int .i64 x900102001_1, .int .i64 x900102002_1, .int .i64 x900102003_1, .int .i64 x900102004_1] 46 (0, 0)) (by (with_reducible repeat (first | refine blk_drewN ?_ _ | refine blk_drew ?_ | refine blk_alloc ?_ _)); exact BK900101.out) hb); have n2_ := Aside0.mk (below_step (by repeat (first | (with_reducible first | exact HB.out | apply below_alloc | apply pw_below_drewN | apply below_drew1 | refine below_set ?_ GE900101.out) | exact HB.out)) hb); clear HO_7; clear BK900101; clear HB; have HO_7 := n0_; have BK900101 := n1_; have HB := n2_; clear n0_ n1_ n2_; (try clear hb); (try clear hb2); (try clear hk); (try clear hi)) | ((with_reducible refine gate_dst (N := 12) rfl ?_); refine box_event ?hg (N := 12) ?hd (cs := #[.int .i64 0, .int .i64 0, .int .i64 0, .int .i64 0, .int .i64 0]) (t := 46) ?hr ?_; (case hd => rfl); (case hg => rfl); (case hr => first | (go_simp; done) | (go_simp; rfl)); intro gb900109 hg w10 hbox hb; have n0_ := Aside0.mk (Kd.R_below (by (with_reducible repeat (first | apply Kd.R_alloc | apply Kd.R_drewN | apply Kd.R_drew)); exact HO_7.out) hb); have n1_ := Aside0.mk (blk_below (g := gb900101) (o := .cells #[.int .i64 x900102000_1, .int .i64 x900102001_1, .int .i64 x900102002_1, .int .i64 x900102003_1, .int .i64 x900102004_1] 46 (0, 0)) (by (with_reducible repeat (first | refine blk_drewN ?_ _ | refine blk_drew ?_ | refine blk_alloc ?_ _)); exact BK900101.out) hb); have n2_ := Aside0.mk (below_step (by repeat (first | (with_reducible first | exact HB.out | apply below_alloc | apply pw_below_drewN | apply below_drew1 | refine below_set ?_ GE900101.out) | exact HB.out)) hb); have n3_ := Aside0.mk (hbox); have n4_ := Aside0.mk ((by rw [hg]; exact (below_size (by repeat (first | (with_reducible first | exact HB.out | apply below_alloc | apply pw_below_drewN | apply below_drew1 | refine below_set ?_ GE900101.out) | exact HB.out))) : w.heap.size ≤ gb900109)); have n5_ := Aside0.mk ((by rw [hg]; exact (below_size (by repeat (first | (with_reducible first | exact HB.out | apply below_alloc | apply pw_below_drewN | apply below_drew1 | refine below_set ?_ GE900101.out) | exact HB.out))) : w.heap.size ≤ gb900109)); have n6_ := Aside0.mk ((by rw [hg]; exact Nat.ne_of_lt (blk_lt (g := gb900101) (o := .cells #[.int .i64 x900102000_1, .int .i64 x900102001_1, .int .i64 x900102002_1, .int .i64 x900102003_1, .int .i64 x900102004_1] 46 (0, 0)) (by (with_reducible repeat (first | refine blk_drewN ?_ _ | refine blk_drew ?_ | refine blk_alloc ?_ _)); exact BK900101.out)) : gb900101 ≠ gb900109)); have n7_ := Aside0.mk ((by rw [hg]; exact Nat.ne_of_gt (blk_lt (g := gb900101) (o := .cells #[.int .i64 x900102000_1, .int .i64 x900102001_1, .int .i64 x900102002_1, .int .i64 x900102003_1, .int .i64 x900102004_1] 46 (0, 0)) (by (with_reducible repeat (first | refine blk_drewN ?_ _ | refine blk_drew ?_ | refine blk_alloc ?_ _)); exact BK900101.out)) : gb900109 ≠ gb900101)); clear HO_7; clear BK900101; clear HB; have HO_7 := n0_; have BK900101 := n1_; have HB := n2_; have BK900109 := n3_; have GW900109 := n4_; have GE900109 := n5_; have NB900101_900109 := n6_; have NB900109_900101 := n7_; clear n0_ n1_ n2_ n3_ n4_ n5_ n6_ n7_; clear hb hbox hg; have hnb11 := NB900109_900101.out; have hnc11 := NB900101_900109.out; have hcz12_0 : w10.cell? ⟨gb900109, 0, none⟩ = some (.int .i64 0) := (blk_cell BK900109.out 0).trans rfl; have hcz12_1 : w10.cell? ⟨gb900109, 1, none⟩ = some (.int .i64 0) := (blk_cell BK900109.out 1).trans rfl; have hcz12_2 : w10.cell? ⟨gb900109, 2, none⟩ = some (.int .i64 0) := (blk_cell BK900109.out 2).trans rfl; have hcz12_3 : w10.cell? ⟨gb900109, 3, none⟩ = some (.int .i64 0) := (blk_cell BK900109.out 3).trans rfl; have hcz12_4 : w10.cell? ⟨gb900109, 4, none⟩ = some (.int .i64 0) := (blk_cell BK900109.out 4).trans rfl; have hfz12_0 := blk_frozen BK900109.out 0; have hfz12_1 := blk_frozen BK900109.out 1; have hfz12_2 := blk_frozen BK900109.out 2; have hfz12_3 := blk_frozen BK900109.out 3; have hfz12_4 := blk_frozen BK900109.out 4) | ((with_reducible refine gate_builtin (b := .append) (xs := #[.tmp 26, .tmp 28]) rfl ?_); at_builtin; refine Kd.R_append Kd.string (w0 := w) w.heap.size rfl (.tmp 26) (.tmp 28) 28 9 (.string ⟨#[]⟩) 16 rfl Tryz.underlying28 info9 rfl (by decide) (by omega) u7 x7_1 t900102 [.string t900102] (fun _ => True) (fun _ => False) rfl (by first | (go_simp; done) | (go_simp; rfl)) ?aP (fun _ hk => hk.elim) ?aF ?aO ?aB ?aS ?aL ?_; (case aP => exact rfl); (case aB => exact (by repeat (first | (with_reducible first | exact HB.out | apply below_alloc | apply pw_below_drewN | apply below_drew1 | refine below_set ?_ GE900101.out | refine below_set ?_ GE900109.out) | exact HB.out))); (case aF => exact (fun _ _ => trivial)); (case aO => exact (by (with_reducible repeat (first | apply Kd.R_alloc | apply Kd.R_drewN | apply Kd.R_drew)); exact Kd.R_mono (Kd.R_far (p := ⟨gb900109, 4, none⟩) (Kd.R_far (p := ⟨gb900109, 3, none⟩) (Kd.R_far (p := ⟨gb900109, 2, none⟩) (Kd.R_far (p := ⟨gb900109, 1, none⟩) (Kd.R_far (p := ⟨gb900109, 0, none⟩) (Kd.R_types HO_7.out BK900109.out (by decide)) (fun _ hk => hk.2) (.int .i64 t900104)) (fun _ hk => hk.2) (.int .i64 t900105)) (fun _ hk => hk.2) (.int .i64 t900106)) (fun _ hk => hk.2) (.int .i64 t900107)) (fun _ hk => hk.2) (.int .i64 t900108)) (fun _ hk => trivial))); (case aS => exact (below_size (by repeat (first | (with_reducible first | exact HB.out | apply below_alloc | apply pw_below_drewN | apply below_drew1 | refine below_set ?_ GE900101.out | refine below_set ?_ GE900109.out) | exact HB.out)))); (case aL => have := LMc7.out; omega); intro v900111 w13 ho hb hg hat; rw [← Ny900110.out] at ho; have n0_ := Aside0.mk (blk_grown (g := gb900101) (o := .cells #[.int .i64 x900102000_1, .int .i64 x900102001_1, .int .i64 x900102002_1, .int .i64 x900102003_1, .int .i64 x900102004_1] 46 (0, 0)) (by (with_reducible repeat (first | refine blk_drewN ?_ _ | refine blk_drew ?_ | refine blk_alloc ?_ _)); refine blk_far ?_ NB900101_900109.out _; (with_reducible repeat (first | refine blk_drewN ?_ _ | refine blk_drew ?_ | refine blk_alloc ?_ _)); refine blk_far ?_ NB900101_900109.out _; (with_reducible repeat (first | refine blk_drewN ?_ _ | refine blk_drew ?_ | refine blk_alloc ?_ _)); refine blk_far ?_ NB900101_900109.out _; (with_reducible repeat (first | refine blk_drewN ?_ _ | refine blk_drew ?_ | refine blk_alloc ?_ _)); refine blk_far ?_ NB900101_900109.out _; (with_reducible repeat (first | refine blk_drewN ?_ _ | refine blk_drew ?_ | refine blk_alloc ?_ _)); refine blk_far ?_ NB900101_900109.out _; (with_reducible repeat (first | refine blk_drewN ?_ _ | refine blk_drew ?_ | refine blk_alloc ?_ _)); exact BK900101.out) hg (Kd.R_ne HO_7.out BK900101.out (by decide))); have n1_ := Aside0.mk (blk_grown (g := gb900109) (o := .cells #[.int .i64 t900104, .int .i64 t900105, .int .i64 t900106, .int .i64 t900107, .int .i64 t900108] 46 (0, 0)) (by (with_reducible repeat (first | refine blk_drewN ?_ _ | refine blk_drew ?_ | refine blk_alloc ?_ _)); refine blk_put (cs := #[.int .i64 t900104, .int .i64 t900105, .int .i64 t900106, .int .i64 t900107, .int .i64 0]) ?_ 4 _ rfl; (with_reducible repeat (first | refine blk_drewN ?_ _ | refine blk_drew ?_ | refine blk_alloc ?_ _)); refine blk_put (cs := #[.int .i64 t900104, .int .i64 t900105, .int .i64 t900106, .int .i64 0, .int .i64 0]) ?_ 3 _ rfl; (with_reducible repeat (first | refine blk_drewN ?_ _ | refine blk_drew ?_ | refine blk_alloc ?_ _)); refine blk_put (cs := #[.int .i64 t900104, .int .i64 t900105, .int .i64 0, .int .i64 0, .int .i64 0]) ?_ 2 _ rfl; (with_reducible repeat (first | refine blk_drewN ?_ _ | refine blk_drew ?_ | refine blk_alloc ?_ _)); refine blk_put (cs := #[.int .i64 t900104, .int .i64 0, .int .i64 0, .int .i64 0, .int .i64 0]) ?_ 1 _ rfl; (with_reducible repeat (first | refine blk_drewN ?_ _ | refine blk_drew ?_ | refine blk_alloc ?_ _)); refine blk_put (cs := #[.int .i64 0, .int .i64 0, .int .i64 0, .int .i64 0, .int .i64 0]) ?_ 0 _ rfl; (with_reducible repeat (first | refine blk_drewN ?_ _ | refine blk_drew ?_ | refine blk_alloc ?_ _)); exact BK900109.out) hg (Kd.R_ne HO_7.out BK900109.out (by decide))); have n2_ := Aside0.mk (hb); have n3_ := Aside0.mk (ho); clear BK900101; clear BK900109; clear HB; clear HO_7; have BK900101 := n0_; have BK900109 := n1_; have HB := n2_; have HO900112 := n3_; clear n0_ n1_ n2_ n3_; clear ho hb hg hat))
            (try simp only [Act.put, List.setIfInBounds_toArray, List.set_cons_zero, List.set_cons_succ])
            go_cut [9] (fun v9 wc => ∃ (kq : Nat) (x9_7 : Bool), v9 = .bool x9_7 ∧ Aside0 (larderref04_row.j1 kq a0 y900110 t900103 x9_7 = some (r1, r2, r3, r4, r5, r6, r7)) ∧ Aside0 (kq ≤ k1) ∧ Aside0 (Kd.R Kd.string 9 wc w.heap.size (fun _ => True) v900111 y900110) ∧ Aside0 (wc.heap[gb900101]? = some (.cells #[.int .i64 x900102000_1, .int .i64 x900102001_1, .int .i64 x900102002_1, .int .i64 x900102003_1, .int .i64 x900102004_1] 46 (0, 0))) ∧ Aside0 (wc.heap[gb900109]? = some (.cells #[.int .i64 t900104, .int .i64 t900105, .int .i64 t900106, .int .i64 t900107, .int .i64 t900108] 46 (0, 0))) ∧ Aside0 (Below w.heap.size w wc))
            case first =>
              have H := HC8.out
              clear HC8
              by_cases c14 : t900103 < (a0.size : Int)
              · rw [if_pos c14] at H
                have c14b0 : decide (t900103 < (a0.size : Int)) = true := decide_eq_true c14
                clear c14
                (first | rw [c14b0] | (simp only [i64_w, i32_w]; rw [c14b0]) | skip)
                by_cases c15 : 0 ≤ t900103
                · rw [if_pos c15] at H
                  have c15b0 : decide (0 ≤ t900103) = true := decide_eq_true c15
                  clear c15
                  have H' := Aside0.mk H
                  clear H
                  have p16 : 0 ≤ (t900103 : Int) := of_decide_eq_true (by first | (with_reducible assumption) | assumption)
                  have q16 : t900103 < (a0.size : Int) := of_decide_eq_true (by first | (with_reducible assumption) | assumption)
                  have hx16 := bt_at a0 t900103
                  replace p16 := eq_true p16
                  replace q16 := eq_true q16
                  go_wp2
                  go_meet
                  case rel => exact ⟨_, (((bt a0 t900103) == 44)), (by first | rfl | (simp; done) | (simp [*]; done)), H', ⟨by have := HK1.out; first | omega | exact Nat.le_refl _⟩, ⟨by (with_reducible repeat (first | apply Kd.R_alloc | apply Kd.R_drewN | apply Kd.R_drew)); exact HO900112.out⟩, ⟨by (with_reducible repeat (first | refine blk_drewN ?_ _ | refine blk_drew ?_ | refine blk_alloc ?_ _)); exact BK900101.out⟩, ⟨by (with_reducible repeat (first | refine blk_drewN ?_ _ | refine blk_drew ?_ | refine blk_alloc ?_ _)); exact BK900109.out⟩, ⟨by repeat (first | (with_reducible first | exact HB.out | apply below_alloc | apply pw_below_drewN | apply below_drew1 | refine below_set ?_ GE900101.out | refine below_set ?_ GE900109.out) | exact HB.out)⟩⟩
                · rw [if_neg c15] at H
                  exact absurd H (by simp)
              · rw [if_neg c14] at H
                have c14b0 : decide (t900103 < (a0.size : Int)) = false := decide_eq_false c14
                clear c14
                (first | rw [c14b0] | (simp only [i64_w, i32_w]; rw [c14b0]) | skip)
                have H' := Aside0.mk H
                clear H
                go_wp2
                go_meet
                case rel => exact ⟨_, (false), (by first | rfl | (simp; done) | (simp [*]; done)), H', ⟨by have := HK1.out; first | omega | exact Nat.le_refl _⟩, ⟨by (with_reducible repeat (first | apply Kd.R_alloc | apply Kd.R_drewN | apply Kd.R_drew)); exact HO900112.out⟩, ⟨by (with_reducible repeat (first | refine blk_drewN ?_ _ | refine blk_drew ?_ | refine blk_alloc ?_ _)); exact BK900101.out⟩, ⟨by (with_reducible repeat (first | refine blk_drewN ?_ _ | refine blk_drew ?_ | refine blk_alloc ?_ _)); exact BK900109.out⟩, ⟨by repeat (first | (with_reducible first | exact HB.out | apply below_alloc | apply pw_below_drewN | apply below_drew1 | refine below_set ?_ GE900101.out | refine below_set ?_ GE900109.out) | exact HB.out)⟩⟩
            case rest =>
              clear HC8
              try clear c1
              try clear p1
              try clear q1
              try clear hx1
              try clear p2
              try clear c4
              try clear c6
              try clear c6b0
              try clear c6b1
              try clear c7
              try clear c9
              try clear c10
              try clear c11
              try clear c14
              try clear c14b0
              try clear c15
              try clear c15b0
              try clear p16
              try clear q16
              try clear hx16
              try clear hcz12_0
              try clear hcz12_1
              try clear hcz12_2
              try clear hcz12_3
              try clear hcz12_4
              try clear hfz12_0
              try clear hfz12_1
              try clear hfz12_2
              try clear hfz12_3
              try clear hfz12_4
              try clear p16
              try clear p2
              try clear q16
              obtain ⟨kq, x9_7, rfl, HA, HJ7, HO_7, BK900101, BK900109, HB⟩ := hcut
              cases kq with
              | zero => exact absurd HA.out (by simp [larderref04_row.j1])
              | succ kj7 =>
                have H := HA.out
                clear HA
                simp only [larderref04_row.j1] at H
                have HC17 := Aside0.mk H
                clear H
                go_upto_region 11 with (fail)
                go_cut [46] (fun v46 wc => ∃ (kq : Nat) (x46_16 : Bool), v46 = .bool x46_16 ∧ Aside0 (larderref04_row.j2 kq a0 y900110 t900103 x9_7 x46_16 = some (r1, r2, r3, r4, r5, r6, r7)) ∧ Aside0 (kq ≤ kj7) ∧ Aside0 (Kd.R Kd.string 9 wc w.heap.size (fun _ => True) v900111 y900110) ∧ Aside0 (wc.heap[gb900101]? = some (.cells #[.int .i64 x900102000_1, .int .i64 x900102001_1, .int .i64 x900102002_1, .int .i64 x900102003_1, .int .i64 x900102004_1] 46 (0, 0))) ∧ Aside0 (wc.heap[gb900109]? = some (.cells #[.int .i64 t900104, .int .i64 t900105, .int .i64 t900106, .int .i64 t900107, .int .i64 t900108] 46 (0, 0))) ∧ Aside0 (Below w.heap.size w wc))
                case first =>
                  have H := HC17.out
                  clear HC17
                  by_cases c18 : x9_7 = true
                  · subst c18
                    have H1 : (larderref04_row.j2 kj7 a0 y900110 t900103 true ((y900110.length : Int) == 64)) = some (r1, r2, r3, r4, r5, r6, r7) := by rw [if_pos rfl] at H; exact H
                    clear H
                    have H := H1
                    clear H1
                    have H' := Aside0.mk H
                    clear H
                    obtain ⟨Ao19, co19, eo19⟩ := Kd.R_slice HO_7.out
                    subst eo19
                    go_wp2
                    go_meet
                    case rel => exact ⟨_, (((y900110.length : Int) == 64)), (by first | rfl | (simp; done) | (simp [*]; done)), H', ⟨by have := HK1.out; have := HJ7.out; first | omega | exact Nat.le_refl _⟩, ⟨by (with_reducible repeat (first | apply Kd.R_alloc | apply Kd.R_drewN | apply Kd.R_drew)); exact HO_7.out⟩, ⟨by (with_reducible repeat (first | refine blk_drewN ?_ _ | refine blk_drew ?_ | refine blk_alloc ?_ _)); exact BK900101.out⟩, ⟨by (with_reducible repeat (first | refine blk_drewN ?_ _ | refine blk_drew ?_ | refine blk_alloc ?_ _)); exact BK900109.out⟩, ⟨by repeat (first | (with_reducible first | exact HB.out | apply below_alloc | apply pw_below_drewN | apply below_drew1 | refine below_set ?_ GE900101.out | refine below_set ?_ GE900109.out) | exact HB.out)⟩⟩
                  · replace c18 := Bool.eq_false_iff.mpr c18
                    subst c18
                    have H1 : (larderref04_row.j2 kj7 a0 y900110 t900103 false false) = some (r1, r2, r3, r4, r5, r6, r7) := by rw [if_neg (show ¬ (false = true) by decide)] at H; exact H
                    clear H
                    have H := H1
                    clear H1
                    have H' := Aside0.mk H
                    clear H
                    go_wp2
                    go_meet
                    case rel => exact ⟨_, (false), (by first | rfl | (simp; done) | (simp [*]; done)), H', ⟨by have := HK1.out; have := HJ7.out; first | omega | exact Nat.le_refl _⟩, ⟨by (with_reducible repeat (first | apply Kd.R_alloc | apply Kd.R_drewN | apply Kd.R_drew)); exact HO_7.out⟩, ⟨by (with_reducible repeat (first | refine blk_drewN ?_ _ | refine blk_drew ?_ | refine blk_alloc ?_ _)); exact BK900101.out⟩, ⟨by (with_reducible repeat (first | refine blk_drewN ?_ _ | refine blk_drew ?_ | refine blk_alloc ?_ _)); exact BK900109.out⟩, ⟨by repeat (first | (with_reducible first | exact HB.out | apply below_alloc | apply pw_below_drewN | apply below_drew1 | refine below_set ?_ GE900101.out | refine below_set ?_ GE900109.out) | exact HB.out)⟩⟩
                case rest =>
                  clear HC17
                  try clear c1
                  try clear p1
                  try clear q1
                  try clear hx1
                  try clear p2
                  try clear c4
                  try clear c6
                  try clear c6b0
                  try clear c6b1
                  try clear c7
                  try clear c9
                  try clear c10
                  try clear c11
                  try clear c14
                  try clear c14b0
                  try clear c15
                  try clear c15b0
                  try clear p16
                  try clear q16
                  try clear hx16
                  try clear c18
                  try clear hcz12_0
                  try clear hcz12_1
                  try clear hcz12_2
                  try clear hcz12_3
                  try clear hcz12_4
                  try clear hfz12_0
                  try clear hfz12_1
                  try clear hfz12_2
                  try clear hfz12_3
                  try clear hfz12_4
                  try clear p1
                  try clear p16
                  try clear p2
                  try clear q1
                  try clear q16
                  obtain ⟨kq, x46_16, rfl, HA, HJ16, HO_7, BK900101, BK900109, HB⟩ := hcut
                  cases kq with
                  | zero => exact absurd HA.out (by simp [larderref04_row.j2])
                  | succ kj16 =>
                    have H := HA.out
                    clear HA
                    simp only [larderref04_row.j2] at H
                    by_cases c20 : x46_16 = true
                    · subst c20
                      have H1 : ((larderref04_placed.f kj16 a0 6 t900103).bind fun bt900113 => (some (([] : List ByteArray), 0, bt900113.1, bt900113.2.1, bt900113.2.2.1, bt900113.2.2.2.1, bt900113.2.2.2.2))) = some (r1, r2, r3, r4, r5, r6, r7) := by rw [if_pos rfl] at H; exact H
                      clear H
                      have H := H1
                      clear H1
                      replace H := Option.bind_eq_some_iff.mp H
                      obtain ⟨⟨t900113, t900114, t900115, t900116, t900117⟩, A210, H⟩ := H
                      replace H : (some (([] : List ByteArray), 0, t900113, t900114, t900115, t900116, t900117)) = some (r1, r2, r3, r4, r5, r6, r7) := H
                      have A21 := Aside0.mk A210
                      clear A210
                      simp only [Option.some.injEq, Prod.mk.injEq] at H
                      obtain ⟨rfl, rfl, rfl, rfl, rfl, rfl, rfl⟩ := H
                      go_wp2_with (first | ((with_reducible refine gate_callee (f := 71) rfl ?_); refine goesL_ (some 49) rfl rfl Tryz.func71 (by kernel_rfl) rfl #[.string a0, .int .i64 6, .int .i64 t900103] rfl (by (try simp only [List.map_toArray, List.map_cons, List.map_nil]); first | done | rfl | (simp only [List.length_drop, List.length_take]; rfl)) ?_; (with_reducible refine (larderref04_placed.calls kj16 a0 6 t900103 t900113 t900114 t900115 t900116 t900117 _ A21.out).mono ?_); rintro e w22 ⟨rfl, hb⟩; refine ⟨_, rfl, ?_⟩; have n0_ := Aside0.mk (Kd.R_below (by (with_reducible repeat (first | apply Kd.R_alloc | apply Kd.R_drewN | apply Kd.R_drew)); exact HO_7.out) hb); have n1_ := Aside0.mk (blk_below (g := gb900101) (o := .cells #[.int .i64 x900102000_1, .int .i64 x900102001_1, .int .i64 x900102002_1, .int .i64 x900102003_1, .int .i64 x900102004_1] 46 (0, 0)) (by (with_reducible repeat (first | refine blk_drewN ?_ _ | refine blk_drew ?_ | refine blk_alloc ?_ _)); exact BK900101.out) hb); have n2_ := Aside0.mk (blk_below (g := gb900109) (o := .cells #[.int .i64 t900104, .int .i64 t900105, .int .i64 t900106, .int .i64 t900107, .int .i64 t900108] 46 (0, 0)) (by (with_reducible repeat (first | refine blk_drewN ?_ _ | refine blk_drew ?_ | refine blk_alloc ?_ _)); exact BK900109.out) hb); have n3_ := Aside0.mk (below_step (by repeat (first | (with_reducible first | exact HB.out | apply below_alloc | apply pw_below_drewN | apply below_drew1 | refine below_set ?_ GE900101.out | refine below_set ?_ GE900109.out) | exact HB.out)) hb); clear HO_7; clear BK900101; clear BK900109; clear HB; have HO_7 := n0_; have BK900101 := n1_; have BK900109 := n2_; have HB := n3_; clear n0_ n1_ n2_ n3_; (try clear hb); (try clear hb2); (try clear hk); (try clear hi); have hnb23 := NB900101_900109.out; have hnc23 := NB900109_900101.out; have hcz24_0 : w22.cell? ⟨gb900101, 0, none⟩ = some (.int .i64 x900102000_1) := (blk_cell BK900101.out 0).trans rfl; have hcz24_1 : w22.cell? ⟨gb900101, 1, none⟩ = some (.int .i64 x900102001_1) := (blk_cell BK900101.out 1).trans rfl; have hcz24_2 : w22.cell? ⟨gb900101, 2, none⟩ = some (.int .i64 x900102002_1) := (blk_cell BK900101.out 2).trans rfl; have hcz24_3 : w22.cell? ⟨gb900101, 3, none⟩ = some (.int .i64 x900102003_1) := (blk_cell BK900101.out 3).trans rfl; have hcz24_4 : w22.cell? ⟨gb900101, 4, none⟩ = some (.int .i64 x900102004_1) := (blk_cell BK900101.out 4).trans rfl; have hfz24_0 := blk_frozen BK900101.out 0; have hfz24_1 := blk_frozen BK900101.out 1; have hfz24_2 := blk_frozen BK900101.out 2; have hfz24_3 := blk_frozen BK900101.out 3; have hfz24_4 := blk_frozen BK900101.out 4))
                      refine bodyPost_ret (results_list (rs := [.tmp 4, .tmp 5, .cell 6 46]) rfl (by simp) (.tmp (.tmp (.cell gb900101 46 #[.int .i64 t900113, .int .i64 t900114, .int .i64 t900115, .int .i64 t900116, .int .i64 t900117] (0, 0) _ rfl (by (with_reducible repeat (first | refine blk_drewN ?_ _ | refine blk_drew ?_ | refine blk_alloc ?_ _)); refine blk_put (cs := #[.int .i64 t900113, .int .i64 t900114, .int .i64 t900115, .int .i64 t900116, .int .i64 x900102004_1]) ?_ 4 _ rfl; (with_reducible repeat (first | refine blk_drewN ?_ _ | refine blk_drew ?_ | refine blk_alloc ?_ _)); refine blk_put (cs := #[.int .i64 t900113, .int .i64 t900114, .int .i64 t900115, .int .i64 x900102003_1, .int .i64 x900102004_1]) ?_ 3 _ rfl; (with_reducible repeat (first | refine blk_drewN ?_ _ | refine blk_drew ?_ | refine blk_alloc ?_ _)); refine blk_put (cs := #[.int .i64 t900113, .int .i64 t900114, .int .i64 x900102002_1, .int .i64 x900102003_1, .int .i64 x900102004_1]) ?_ 2 _ rfl; (with_reducible repeat (first | refine blk_drewN ?_ _ | refine blk_drew ?_ | refine blk_alloc ?_ _)); refine blk_put (cs := #[.int .i64 t900113, .int .i64 x900102001_1, .int .i64 x900102002_1, .int .i64 x900102003_1, .int .i64 x900102004_1]) ?_ 1 _ rfl; (with_reducible repeat (first | refine blk_drewN ?_ _ | refine blk_drew ?_ | refine blk_alloc ?_ _)); refine blk_put (cs := #[.int .i64 x900102000_1, .int .i64 x900102001_1, .int .i64 x900102002_1, .int .i64 x900102003_1, .int .i64 x900102004_1]) ?_ 0 _ rfl; (with_reducible repeat (first | refine blk_drewN ?_ _ | refine blk_drew ?_ | refine blk_alloc ?_ _)); exact BK900101.out) Tryz.underlying46 rfl (by kernel_rfl) .nil)))) rfl ?_
                      exact ⟨_, by first | rfl | (simp [errW_none, errW_some] <;> rfl) | (simp [*, errW_none, errW_some] <;> rfl), by first | exact Kd.R_nil _ _ _ _ _ | exact Kd.N_nil _ _ _ _ _ | exact Kd.V_nil _ _ _ _ _ | exact Kd.Q_nil _ _ _ _ _ | exact Kd.S_nil _ _ _ _ _, by repeat (first | (with_reducible first | exact HB.out | apply below_alloc | apply pw_below_drewN | apply below_drew1 | refine below_set ?_ GE900101.out | refine below_set ?_ GE900109.out) | exact HB.out)⟩
                    · replace c20 := Bool.eq_false_iff.mpr c20
                      subst c20
                      have H1 : (if x9_7 = true then (larderref04_row.l0 kj16 a0 y900110 (wrap64 (t900103 + 1)) x9_7) else (larderref04_row.l0 kj16 a0 y900110 t900103 x9_7)) = some (r1, r2, r3, r4, r5, r6, r7) := by rw [if_neg (show ¬ (false = true) by decide)] at H; exact H
                      clear H
                      have H := H1
                      clear H1
                      by_cases c25 : x9_7 = true
                      · subst c25
                        have H1 : (larderref04_row.l0 kj16 a0 y900110 (wrap64 (t900103 + 1)) true) = some (r1, r2, r3, r4, r5, r6, r7) := by rw [if_pos rfl] at H; exact H
                        clear H
                        have H := H1
                        clear H1
                        have H' := Aside0.mk H
                        clear H
                        go_wp2
                        go_roundg kj16
                        case measure => have := HK1.out; have := HJ7.out; have := HJ16.out; omega
                        case rel => exact ⟨(y900110), (wrap64 (t900103 + 1)), (true), (x900102000_1), (x900102001_1), (x900102002_1), (x900102003_1), (x900102004_1), (by first | rfl | (simp; done) | (simp [*]; done)), (by first | rfl | (simp; done) | (simp [*]; done)), H', ⟨by have := HK1.out; have := HJ7.out; have := HJ16.out; omega⟩, ⟨by (with_reducible repeat (first | apply Kd.R_alloc | apply Kd.R_drewN | apply Kd.R_drew)); exact HO_7.out⟩, ⟨by (with_reducible repeat (first | refine blk_drewN ?_ _ | refine blk_drew ?_ | refine blk_alloc ?_ _)); exact BK900101.out⟩, ⟨by repeat (first | (with_reducible first | exact HB.out | apply below_alloc | apply pw_below_drewN | apply below_drew1 | refine below_set ?_ GE900101.out | refine below_set ?_ GE900109.out) | exact HB.out)⟩⟩
                      · replace c25 := Bool.eq_false_iff.mpr c25
                        subst c25
                        have H1 : (larderref04_row.l0 kj16 a0 y900110 t900103 false) = some (r1, r2, r3, r4, r5, r6, r7) := by rw [if_neg (show ¬ (false = true) by decide)] at H; exact H
                        clear H
                        have H := H1
                        clear H1
                        have H' := Aside0.mk H
                        clear H
                        go_wp2
                        go_roundg kj16
                        case measure => have := HK1.out; have := HJ7.out; have := HJ16.out; omega
                        case rel => exact ⟨(y900110), (t900103), (false), (x900102000_1), (x900102001_1), (x900102002_1), (x900102003_1), (x900102004_1), (by first | rfl | (simp; done) | (simp [*]; done)), (by first | rfl | (simp; done) | (simp [*]; done)), H', ⟨by have := HK1.out; have := HJ7.out; have := HJ16.out; omega⟩, ⟨by (with_reducible repeat (first | apply Kd.R_alloc | apply Kd.R_drewN | apply Kd.R_drew)); exact HO_7.out⟩, ⟨by (with_reducible repeat (first | refine blk_drewN ?_ _ | refine blk_drew ?_ | refine blk_alloc ?_ _)); exact BK900101.out⟩, ⟨by repeat (first | (with_reducible first | exact HB.out | apply below_alloc | apply pw_below_drewN | apply below_drew1 | refine below_set ?_ GE900101.out | refine below_set ?_ GE900109.out) | exact HB.out)⟩⟩
          · rw [if_neg c7] at H
            exact absurd H (by simp)
        · rw [if_neg c6] at H
          have c6b0 : (t900104 == 0) = false := beq_eq_false_iff_ne.mpr c6
          have c6b1 : (t900104 != 0) = true := bne_iff_ne.mpr c6
          simp only [Option.some.injEq, Prod.mk.injEq] at H
          obtain ⟨rfl, rfl, rfl, rfl, rfl, rfl, rfl⟩ := H
          try go_wp2_with (first | ((with_reducible refine gate_callee (f := 104) rfl ?_); refine goesL_ (some 18) rfl rfl Tryz.func104 (by kernel_rfl) rfl #[.string a0, .int .i64 x8_1] rfl (by (try simp only [List.map_toArray, List.map_cons, List.map_nil]); first | done | rfl | (simp only [List.length_drop, List.length_take]; rfl)) ?_; (with_reducible refine (larderref04_cell.calls k1 a0 x8_1 t900102 t900103 t900104 t900105 t900106 t900107 t900108 _ A5.out).mono ?_); rintro e w26 ⟨rfl, hb⟩; refine ⟨_, rfl, ?_⟩; have n0_ := Aside0.mk (Kd.R_below (by (with_reducible repeat (first | apply Kd.R_alloc | apply Kd.R_drewN | apply Kd.R_drew)); exact HO_7.out) hb); have n1_ := Aside0.mk (blk_below (g := gb900101) (o := .cells #[.int .i64 x900102000_1, .int .i64 x900102001_1, .int .i64 x900102002_1, .int .i64 x900102003_1, .int .i64 x900102004_1] 46 (0, 0)) (by (with_reducible repeat (first | refine blk_drewN ?_ _ | refine blk_drew ?_ | refine blk_alloc ?_ _)); exact BK900101.out) hb); have n2_ := Aside0.mk (below_step (by repeat (first | (with_reducible first | exact HB.out | apply below_alloc | apply pw_below_drewN | apply below_drew1 | refine below_set ?_ GE900101.out) | exact HB.out)) hb); clear HO_7; clear BK900101; clear HB; have HO_7 := n0_; have BK900101 := n1_; have HB := n2_; clear n0_ n1_ n2_; (try clear hb); (try clear hb2); (try clear hk); (try clear hi)) | ((with_reducible refine gate_dst (N := 12) rfl ?_); refine box_event ?hg (N := 12) ?hd (cs := #[.int .i64 0, .int .i64 0, .int .i64 0, .int .i64 0, .int .i64 0]) (t := 46) ?hr ?_; (case hd => rfl); (case hg => rfl); (case hr => first | (go_simp; done) | (go_simp; rfl)); intro gb900109 hg w27 hbox hb; have n0_ := Aside0.mk (Kd.R_below (by (with_reducible repeat (first | apply Kd.R_alloc | apply Kd.R_drewN | apply Kd.R_drew)); exact HO_7.out) hb); have n1_ := Aside0.mk (blk_below (g := gb900101) (o := .cells #[.int .i64 x900102000_1, .int .i64 x900102001_1, .int .i64 x900102002_1, .int .i64 x900102003_1, .int .i64 x900102004_1] 46 (0, 0)) (by (with_reducible repeat (first | refine blk_drewN ?_ _ | refine blk_drew ?_ | refine blk_alloc ?_ _)); exact BK900101.out) hb); have n2_ := Aside0.mk (below_step (by repeat (first | (with_reducible first | exact HB.out | apply below_alloc | apply pw_below_drewN | apply below_drew1 | refine below_set ?_ GE900101.out) | exact HB.out)) hb); have n3_ := Aside0.mk (hbox); have n4_ := Aside0.mk ((by rw [hg]; exact (below_size (by repeat (first | (with_reducible first | exact HB.out | apply below_alloc | apply pw_below_drewN | apply below_drew1 | refine below_set ?_ GE900101.out) | exact HB.out))) : w.heap.size ≤ gb900109)); have n5_ := Aside0.mk ((by rw [hg]; exact (below_size (by repeat (first | (with_reducible first | exact HB.out | apply below_alloc | apply pw_below_drewN | apply below_drew1 | refine below_set ?_ GE900101.out) | exact HB.out))) : w.heap.size ≤ gb900109)); have n6_ := Aside0.mk ((by rw [hg]; exact Nat.ne_of_lt (blk_lt (g := gb900101) (o := .cells #[.int .i64 x900102000_1, .int .i64 x900102001_1, .int .i64 x900102002_1, .int .i64 x900102003_1, .int .i64 x900102004_1] 46 (0, 0)) (by (with_reducible repeat (first | refine blk_drewN ?_ _ | refine blk_drew ?_ | refine blk_alloc ?_ _)); exact BK900101.out)) : gb900101 ≠ gb900109)); have n7_ := Aside0.mk ((by rw [hg]; exact Nat.ne_of_gt (blk_lt (g := gb900101) (o := .cells #[.int .i64 x900102000_1, .int .i64 x900102001_1, .int .i64 x900102002_1, .int .i64 x900102003_1, .int .i64 x900102004_1] 46 (0, 0)) (by (with_reducible repeat (first | refine blk_drewN ?_ _ | refine blk_drew ?_ | refine blk_alloc ?_ _)); exact BK900101.out)) : gb900109 ≠ gb900101)); clear HO_7; clear BK900101; clear HB; have HO_7 := n0_; have BK900101 := n1_; have HB := n2_; have BK900109 := n3_; have GW900109 := n4_; have GE900109 := n5_; have NB900101_900109 := n6_; have NB900109_900101 := n7_; clear n0_ n1_ n2_ n3_ n4_ n5_ n6_ n7_; clear hb hbox hg; have hnb28 := NB900109_900101.out; have hnc28 := NB900101_900109.out; have hcz29_0 : w27.cell? ⟨gb900109, 0, none⟩ = some (.int .i64 0) := (blk_cell BK900109.out 0).trans rfl; have hcz29_1 : w27.cell? ⟨gb900109, 1, none⟩ = some (.int .i64 0) := (blk_cell BK900109.out 1).trans rfl; have hcz29_2 : w27.cell? ⟨gb900109, 2, none⟩ = some (.int .i64 0) := (blk_cell BK900109.out 2).trans rfl; have hcz29_3 : w27.cell? ⟨gb900109, 3, none⟩ = some (.int .i64 0) := (blk_cell BK900109.out 3).trans rfl; have hcz29_4 : w27.cell? ⟨gb900109, 4, none⟩ = some (.int .i64 0) := (blk_cell BK900109.out 4).trans rfl; have hfz29_0 := blk_frozen BK900109.out 0; have hfz29_1 := blk_frozen BK900109.out 1; have hfz29_2 := blk_frozen BK900109.out 2; have hfz29_3 := blk_frozen BK900109.out 3; have hfz29_4 := blk_frozen BK900109.out 4))
          have n0_ : Aside0 (Kd.R Kd.string 9 (((((w27.setCell ⟨gb900109, 0, none⟩ (.int .i64 t900104)).setCell ⟨gb900109, 1, none⟩ (.int .i64 t900105)).setCell ⟨gb900109, 2, none⟩ (.int .i64 t900106)).setCell ⟨gb900109, 3, none⟩ (.int .i64 t900107)).setCell ⟨gb900109, 4, none⟩ (.int .i64 t900108)) w.heap.size (fun _ => True) u7 x7_1) := ⟨by (with_reducible repeat (first | apply Kd.R_alloc | apply Kd.R_drewN | apply Kd.R_drew)); exact Kd.R_mono (Kd.R_far (p := ⟨gb900109, 4, none⟩) (Kd.R_far (p := ⟨gb900109, 3, none⟩) (Kd.R_far (p := ⟨gb900109, 2, none⟩) (Kd.R_far (p := ⟨gb900109, 1, none⟩) (Kd.R_far (p := ⟨gb900109, 0, none⟩) (Kd.R_types HO_7.out BK900109.out (by decide)) (fun _ hk => hk.2) (.int .i64 t900104)) (fun _ hk => hk.2) (.int .i64 t900105)) (fun _ hk => hk.2) (.int .i64 t900106)) (fun _ hk => hk.2) (.int .i64 t900107)) (fun _ hk => hk.2) (.int .i64 t900108)) (fun _ hk => trivial)⟩
          have n1_ : Aside0 ((((((w27.setCell ⟨gb900109, 0, none⟩ (.int .i64 t900104)).setCell ⟨gb900109, 1, none⟩ (.int .i64 t900105)).setCell ⟨gb900109, 2, none⟩ (.int .i64 t900106)).setCell ⟨gb900109, 3, none⟩ (.int .i64 t900107)).setCell ⟨gb900109, 4, none⟩ (.int .i64 t900108)).heap[gb900101]? = some (.cells #[.int .i64 x900102000_1, .int .i64 x900102001_1, .int .i64 x900102002_1, .int .i64 x900102003_1, .int .i64 x900102004_1] 46 (0, 0))) := ⟨by (with_reducible repeat (first | refine blk_drewN ?_ _ | refine blk_drew ?_ | refine blk_alloc ?_ _)); refine blk_far ?_ NB900101_900109.out _; (with_reducible repeat (first | refine blk_drewN ?_ _ | refine blk_drew ?_ | refine blk_alloc ?_ _)); refine blk_far ?_ NB900101_900109.out _; (with_reducible repeat (first | refine blk_drewN ?_ _ | refine blk_drew ?_ | refine blk_alloc ?_ _)); refine blk_far ?_ NB900101_900109.out _; (with_reducible repeat (first | refine blk_drewN ?_ _ | refine blk_drew ?_ | refine blk_alloc ?_ _)); refine blk_far ?_ NB900101_900109.out _; (with_reducible repeat (first | refine blk_drewN ?_ _ | refine blk_drew ?_ | refine blk_alloc ?_ _)); refine blk_far ?_ NB900101_900109.out _; (with_reducible repeat (first | refine blk_drewN ?_ _ | refine blk_drew ?_ | refine blk_alloc ?_ _)); exact BK900101.out⟩
          have n2_ : Aside0 ((((((w27.setCell ⟨gb900109, 0, none⟩ (.int .i64 t900104)).setCell ⟨gb900109, 1, none⟩ (.int .i64 t900105)).setCell ⟨gb900109, 2, none⟩ (.int .i64 t900106)).setCell ⟨gb900109, 3, none⟩ (.int .i64 t900107)).setCell ⟨gb900109, 4, none⟩ (.int .i64 t900108)).heap[gb900109]? = some (.cells #[.int .i64 t900104, .int .i64 t900105, .int .i64 t900106, .int .i64 t900107, .int .i64 t900108] 46 (0, 0))) := ⟨by (with_reducible repeat (first | refine blk_drewN ?_ _ | refine blk_drew ?_ | refine blk_alloc ?_ _)); refine blk_put (cs := #[.int .i64 t900104, .int .i64 t900105, .int .i64 t900106, .int .i64 t900107, .int .i64 0]) ?_ 4 _ rfl; (with_reducible repeat (first | refine blk_drewN ?_ _ | refine blk_drew ?_ | refine blk_alloc ?_ _)); refine blk_put (cs := #[.int .i64 t900104, .int .i64 t900105, .int .i64 t900106, .int .i64 0, .int .i64 0]) ?_ 3 _ rfl; (with_reducible repeat (first | refine blk_drewN ?_ _ | refine blk_drew ?_ | refine blk_alloc ?_ _)); refine blk_put (cs := #[.int .i64 t900104, .int .i64 t900105, .int .i64 0, .int .i64 0, .int .i64 0]) ?_ 2 _ rfl; (with_reducible repeat (first | refine blk_drewN ?_ _ | refine blk_drew ?_ | refine blk_alloc ?_ _)); refine blk_put (cs := #[.int .i64 t900104, .int .i64 0, .int .i64 0, .int .i64 0, .int .i64 0]) ?_ 1 _ rfl; (with_reducible repeat (first | refine blk_drewN ?_ _ | refine blk_drew ?_ | refine blk_alloc ?_ _)); refine blk_put (cs := #[.int .i64 0, .int .i64 0, .int .i64 0, .int .i64 0, .int .i64 0]) ?_ 0 _ rfl; (with_reducible repeat (first | refine blk_drewN ?_ _ | refine blk_drew ?_ | refine blk_alloc ?_ _)); exact BK900109.out⟩
          have n3_ : Aside0 (Below w.heap.size w (((((w27.setCell ⟨gb900109, 0, none⟩ (.int .i64 t900104)).setCell ⟨gb900109, 1, none⟩ (.int .i64 t900105)).setCell ⟨gb900109, 2, none⟩ (.int .i64 t900106)).setCell ⟨gb900109, 3, none⟩ (.int .i64 t900107)).setCell ⟨gb900109, 4, none⟩ (.int .i64 t900108))) := ⟨by repeat (first | (with_reducible first | exact HB.out | apply below_alloc | apply pw_below_drewN | apply below_drew1 | refine below_set ?_ GE900101.out | refine below_set ?_ GE900109.out) | exact HB.out)⟩
          (try clear HO_7)
          (try clear BK900101)
          (try clear BK900109)
          (try clear HB)
          generalize (((((w27.setCell ⟨gb900109, 0, none⟩ (.int .i64 t900104)).setCell ⟨gb900109, 1, none⟩ (.int .i64 t900105)).setCell ⟨gb900109, 2, none⟩ (.int .i64 t900106)).setCell ⟨gb900109, 3, none⟩ (.int .i64 t900107)).setCell ⟨gb900109, 4, none⟩ (.int .i64 t900108)) = w30 at n0_ n1_ n2_ n3_ ⊢
          have HO_7 := n0_
          have BK900101 := n1_
          have BK900109 := n2_
          have HB := n3_
          clear n0_ n1_ n2_ n3_
          have n0_ := Aside0.mk (Kd.R_drew HO_7.out)
          have n1_ := Aside0.mk (blk_drew BK900101.out)
          have n2_ := Aside0.mk (blk_drew BK900109.out)
          have n3_ := Aside0.mk (below_drew1 HB.out)
          clear HO_7
          clear BK900101
          clear BK900109
          clear HB
          have HO_7 := n0_
          have BK900101 := n1_
          have BK900109 := n2_
          have HB := n3_
          clear n0_ n1_ n2_ n3_
          refine start_ (n := 4) (S := fun w' => w'.cell? ⟨gb900109, 0, none⟩ = some (.int .i64 t900104) ∧ w'.cell? ⟨gb900109, 1, none⟩ = some (.int .i64 t900105) ∧ w'.cell? ⟨gb900109, 2, none⟩ = some (.int .i64 t900106) ∧ w'.cell? ⟨gb900109, 3, none⟩ = some (.int .i64 t900107) ∧ w'.cell? ⟨gb900109, 4, none⟩ = some (.int .i64 t900108)) (ds := []) #[false, false, false, false] (by kernel_rfl) rfl rfl ⟨(blk_cell BK900109.out 0).trans rfl, (blk_cell BK900109.out 1).trans rfl, (blk_cell BK900109.out 2).trans rfl, (blk_cell BK900109.out 3).trans rfl, (blk_cell BK900109.out 4).trans rfl⟩ (fun hHeld => ?_)
          generalize w30.drew = w31 at HO_7 BK900101 BK900109 HB hHeld ⊢
          refine pure_ (i := 1) (N := some 4) (v := ?_) (a' := ?_) #[false, true, false, false] rfl rfl (by kernel_rfl) (fun _ _ _ h => h) (Or.inl ⟨by rfl, ?_⟩) ?_ ?_
          rotate_left
          · intro w'
            go_simp
            with_reducible rfl
          rotate_left
          · simp only [Act.put, List.setIfInBounds_toArray, List.set_cons_zero, List.set_cons_succ, i64_w, i32_w]
            rfl
          refine pure_ (i := 2) (N := some 5) (v := ?_) (a' := ?_) #[false, true, true, false] rfl rfl (by kernel_rfl) (fun _ _ _ h => h) (Or.inl ⟨by rfl, ?_⟩) ?_ ?_
          rotate_left
          · intro w'
            go_simp
            with_reducible rfl
          rotate_left
          · simp only [Act.put, List.setIfInBounds_toArray, List.set_cons_zero, List.set_cons_succ, i64_w, i32_w]
            rfl
          refine take_ (i := 0) (N := some 25) (v := ?_) (a' := ?_) #[true, true, true, false] rfl rfl (by kernel_rfl) (fun _ _ _ h => h) (Or.inl ⟨by rfl, ?_⟩) hHeld ?_ ?_
          rotate_left
          · rintro w' ⟨s0, s1, s2, s3, s4⟩
            go_simp
            with_reducible rfl
          rotate_left
          · simp only [Act.put, List.setIfInBounds_toArray, List.set_cons_zero, List.set_cons_succ, i64_w, i32_w]
            rfl
          refine one_ (i := 3) (N := none) #[true, true, true, true] rfl rfl (by kernel_rfl) (by decide) (fun K hK => ?_)
          have hs32 : w31.cell? ⟨gb900101, 0, none⟩ = some (.int .i64 x900102000_1) := (blk_cell BK900101.out 0).trans rfl
          have hfs32 := blk_frozen BK900101.out 0
          have hns32_1 := NB900109_900101.out
          have hms32_1 := NB900101_900109.out
          have hs33 : w31.cell? ⟨gb900101, 1, none⟩ = some (.int .i64 x900102001_1) := (blk_cell BK900101.out 1).trans rfl
          have hfs33 := blk_frozen BK900101.out 1
          have hns33_1 := NB900109_900101.out
          have hms33_1 := NB900101_900109.out
          have hs34 : w31.cell? ⟨gb900101, 2, none⟩ = some (.int .i64 x900102002_1) := (blk_cell BK900101.out 2).trans rfl
          have hfs34 := blk_frozen BK900101.out 2
          have hns34_1 := NB900109_900101.out
          have hms34_1 := NB900101_900109.out
          have hs35 : w31.cell? ⟨gb900101, 3, none⟩ = some (.int .i64 x900102003_1) := (blk_cell BK900101.out 3).trans rfl
          have hfs35 := blk_frozen BK900101.out 3
          have hns35_1 := NB900109_900101.out
          have hms35_1 := NB900101_900109.out
          have hs36 : w31.cell? ⟨gb900101, 4, none⟩ = some (.int .i64 x900102004_1) := (blk_cell BK900101.out 4).trans rfl
          have hfs36 := blk_frozen BK900101.out 4
          have hns36_1 := NB900109_900101.out
          have hms36_1 := NB900101_900109.out
          refine skip_ (w1 := ?_) (by rfl) rfl ?_ ?_
          rotate_left
          · go_simp
            rfl
          refine hK.out _ _ ⟨((cell_far (p := ⟨gb900101, _, none⟩) NB900109_900101.out _).trans (((cell_far (p := ⟨gb900101, _, none⟩) NB900109_900101.out _).trans (((cell_far (p := ⟨gb900101, _, none⟩) NB900109_900101.out _).trans (((cell_far (p := ⟨gb900101, _, none⟩) NB900109_900101.out _).trans (((cell_far (p := ⟨gb900101, _, none⟩) NB900109_900101.out _).trans (hHeld.1)))))))))), ((cell_far (p := ⟨gb900101, _, none⟩) NB900109_900101.out _).trans (((cell_far (p := ⟨gb900101, _, none⟩) NB900109_900101.out _).trans (((cell_far (p := ⟨gb900101, _, none⟩) NB900109_900101.out _).trans (((cell_far (p := ⟨gb900101, _, none⟩) NB900109_900101.out _).trans (((cell_far (p := ⟨gb900101, _, none⟩) NB900109_900101.out _).trans (hHeld.2.1)))))))))), ((cell_far (p := ⟨gb900101, _, none⟩) NB900109_900101.out _).trans (((cell_far (p := ⟨gb900101, _, none⟩) NB900109_900101.out _).trans (((cell_far (p := ⟨gb900101, _, none⟩) NB900109_900101.out _).trans (((cell_far (p := ⟨gb900101, _, none⟩) NB900109_900101.out _).trans (((cell_far (p := ⟨gb900101, _, none⟩) NB900109_900101.out _).trans (hHeld.2.2.1)))))))))), ((cell_far (p := ⟨gb900101, _, none⟩) NB900109_900101.out _).trans (((cell_far (p := ⟨gb900101, _, none⟩) NB900109_900101.out _).trans (((cell_far (p := ⟨gb900101, _, none⟩) NB900109_900101.out _).trans (((cell_far (p := ⟨gb900101, _, none⟩) NB900109_900101.out _).trans (((cell_far (p := ⟨gb900101, _, none⟩) NB900109_900101.out _).trans (hHeld.2.2.2.1)))))))))), ((cell_far (p := ⟨gb900101, _, none⟩) NB900109_900101.out _).trans (((cell_far (p := ⟨gb900101, _, none⟩) NB900109_900101.out _).trans (((cell_far (p := ⟨gb900101, _, none⟩) NB900109_900101.out _).trans (((cell_far (p := ⟨gb900101, _, none⟩) NB900109_900101.out _).trans (((cell_far (p := ⟨gb900101, _, none⟩) NB900109_900101.out _).trans (hHeld.2.2.2.2))))))))))⟩ (fun hHeld => ?_)
          clear hK K
          refine done_ (by kernel_rfl) ?_
          try go_wp2
          refine bodyPost_ret (results_list (rs := [.tmp 4, .tmp 5, .cell 6 46]) rfl (by simp) (.tmp (.tmp (.cell gb900101 46 #[.int .i64 t900104, .int .i64 t900105, .int .i64 t900106, .int .i64 t900107, .int .i64 t900108] (0, 0) _ rfl (by (with_reducible repeat (first | refine blk_drewN ?_ _ | refine blk_drew ?_ | refine blk_alloc ?_ _)); refine blk_put (cs := #[.int .i64 t900104, .int .i64 t900105, .int .i64 t900106, .int .i64 t900107, .int .i64 x900102004_1]) ?_ 4 _ rfl; (with_reducible repeat (first | refine blk_drewN ?_ _ | refine blk_drew ?_ | refine blk_alloc ?_ _)); refine blk_put (cs := #[.int .i64 t900104, .int .i64 t900105, .int .i64 t900106, .int .i64 x900102003_1, .int .i64 x900102004_1]) ?_ 3 _ rfl; (with_reducible repeat (first | refine blk_drewN ?_ _ | refine blk_drew ?_ | refine blk_alloc ?_ _)); refine blk_put (cs := #[.int .i64 t900104, .int .i64 t900105, .int .i64 x900102002_1, .int .i64 x900102003_1, .int .i64 x900102004_1]) ?_ 2 _ rfl; (with_reducible repeat (first | refine blk_drewN ?_ _ | refine blk_drew ?_ | refine blk_alloc ?_ _)); refine blk_put (cs := #[.int .i64 t900104, .int .i64 x900102001_1, .int .i64 x900102002_1, .int .i64 x900102003_1, .int .i64 x900102004_1]) ?_ 1 _ rfl; (with_reducible repeat (first | refine blk_drewN ?_ _ | refine blk_drew ?_ | refine blk_alloc ?_ _)); refine blk_put (cs := #[.int .i64 x900102000_1, .int .i64 x900102001_1, .int .i64 x900102002_1, .int .i64 x900102003_1, .int .i64 x900102004_1]) ?_ 0 _ rfl; (with_reducible repeat (first | refine blk_drewN ?_ _ | refine blk_drew ?_ | refine blk_alloc ?_ _)); exact BK900101.out) Tryz.underlying46 rfl (by kernel_rfl) .nil)))) rfl ?_
          exact ⟨_, by first | rfl | (simp [errW_none, errW_some] <;> rfl) | (simp [*, errW_none, errW_some] <;> rfl), by first | exact Kd.R_nil _ _ _ _ _ | exact Kd.N_nil _ _ _ _ _ | exact Kd.V_nil _ _ _ _ _ | exact Kd.Q_nil _ _ _ _ _ | exact Kd.S_nil _ _ _ _ _, by repeat (first | (with_reducible first | exact HB.out | apply below_alloc | apply pw_below_drewN | apply below_drew1 | refine below_set ?_ GE900101.out | refine below_set ?_ GE900109.out) | exact HB.out)⟩
      · replace c4 := Bool.eq_false_iff.mpr c4
        subst c4
        have H1 : (some (x7_1, x8_1, 0, 0, 0, 0, 0)) = some (r1, r2, r3, r4, r5, r6, r7) := by rw [if_neg (show ¬ (false = true) by decide)] at H; exact H
        clear H
        have H := H1
        clear H1
        simp only [Option.some.injEq, Prod.mk.injEq] at H
        obtain ⟨rfl, rfl, rfl, rfl, rfl, rfl, rfl⟩ := H
        have hcz37_0 : wr.cell? ⟨gb900101, 0, none⟩ = some (.int .i64 x900102000_1) := (blk_cell BK900101.out 0).trans rfl
        have hcz37_1 : wr.cell? ⟨gb900101, 1, none⟩ = some (.int .i64 x900102001_1) := (blk_cell BK900101.out 1).trans rfl
        have hcz37_2 : wr.cell? ⟨gb900101, 2, none⟩ = some (.int .i64 x900102002_1) := (blk_cell BK900101.out 2).trans rfl
        have hcz37_3 : wr.cell? ⟨gb900101, 3, none⟩ = some (.int .i64 x900102003_1) := (blk_cell BK900101.out 3).trans rfl
        have hcz37_4 : wr.cell? ⟨gb900101, 4, none⟩ = some (.int .i64 x900102004_1) := (blk_cell BK900101.out 4).trans rfl
        have hfz37_0 := blk_frozen BK900101.out 0
        have hfz37_1 := blk_frozen BK900101.out 1
        have hfz37_2 := blk_frozen BK900101.out 2
        have hfz37_3 := blk_frozen BK900101.out 3
        have hfz37_4 := blk_frozen BK900101.out 4
        go_wp2
        refine bodyPost_ret (results_list (rs := [.tmp 4, .tmp 5, .cell 6 46]) rfl (by simp) (.tmp (.tmp (.cell gb900101 46 #[.int .i64 0, .int .i64 0, .int .i64 0, .int .i64 0, .int .i64 0] (0, 0) _ rfl (by (with_reducible repeat (first | refine blk_drewN ?_ _ | refine blk_drew ?_ | refine blk_alloc ?_ _)); refine blk_put (cs := #[.int .i64 0, .int .i64 0, .int .i64 0, .int .i64 0, .int .i64 x900102004_1]) ?_ 4 _ rfl; (with_reducible repeat (first | refine blk_drewN ?_ _ | refine blk_drew ?_ | refine blk_alloc ?_ _)); refine blk_put (cs := #[.int .i64 0, .int .i64 0, .int .i64 0, .int .i64 x900102003_1, .int .i64 x900102004_1]) ?_ 3 _ rfl; (with_reducible repeat (first | refine blk_drewN ?_ _ | refine blk_drew ?_ | refine blk_alloc ?_ _)); refine blk_put (cs := #[.int .i64 0, .int .i64 0, .int .i64 x900102002_1, .int .i64 x900102003_1, .int .i64 x900102004_1]) ?_ 2 _ rfl; (with_reducible repeat (first | refine blk_drewN ?_ _ | refine blk_drew ?_ | refine blk_alloc ?_ _)); refine blk_put (cs := #[.int .i64 0, .int .i64 x900102001_1, .int .i64 x900102002_1, .int .i64 x900102003_1, .int .i64 x900102004_1]) ?_ 1 _ rfl; (with_reducible repeat (first | refine blk_drewN ?_ _ | refine blk_drew ?_ | refine blk_alloc ?_ _)); refine blk_put (cs := #[.int .i64 x900102000_1, .int .i64 x900102001_1, .int .i64 x900102002_1, .int .i64 x900102003_1, .int .i64 x900102004_1]) ?_ 0 _ rfl; (with_reducible repeat (first | refine blk_drewN ?_ _ | refine blk_drew ?_ | refine blk_alloc ?_ _)); exact BK900101.out) Tryz.underlying46 rfl (by kernel_rfl) .nil)))) rfl ?_
        exact ⟨_, by first | rfl | (simp [errW_none, errW_some] <;> rfl) | (simp [*, errW_none, errW_some] <;> rfl), by (with_reducible repeat (first | apply Kd.R_alloc | apply Kd.R_drewN | apply Kd.R_drew)); exact Kd.R_mono (Kd.R_far (p := ⟨gb900101, 4, none⟩) (Kd.R_far (p := ⟨gb900101, 3, none⟩) (Kd.R_far (p := ⟨gb900101, 2, none⟩) (Kd.R_far (p := ⟨gb900101, 1, none⟩) (Kd.R_far (p := ⟨gb900101, 0, none⟩) (Kd.R_types HO_7.out BK900101.out (by decide)) (fun _ hk => hk.2) (.int .i64 0)) (fun _ hk => hk.2) (.int .i64 0)) (fun _ hk => hk.2) (.int .i64 0)) (fun _ hk => hk.2) (.int .i64 0)) (fun _ hk => hk.2) (.int .i64 0)) (fun _ hk => trivial), by repeat (first | (with_reducible first | exact HB.out | apply below_alloc | apply pw_below_drewN | apply below_drew1 | refine below_set ?_ GE900101.out) | exact HB.out)⟩

end Go.Proofs.YtappphffbnkloaaGreatDoor.GS
