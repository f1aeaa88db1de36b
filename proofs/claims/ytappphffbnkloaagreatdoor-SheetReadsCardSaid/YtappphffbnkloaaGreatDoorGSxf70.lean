-- written by a program (gp.py over the kit's print) for this claim
import Derived.Test.YtappphffbnkloaaGreatDoorGSx0
import Derived.Test.YtappphffbnkloaaGreatDoorGSxf71
import Derived.Test.YtappphffbnkloaaGreatDoorGSxf90
namespace Go.Proofs.YtappphffbnkloaaGreatDoor.GS
open Go.RowKit Go.Proofs.YtappphffbnkloaaGreatDoorW.PrintWords Go.Proofs.YtappphffbnkloaaGreatDoorW.PrintLast Go.Proofs.YtappphffbnkloaaGreatDoor.Ext
attribute [local go_sem] max2_int min2_int max_two min_two   -- for this text alone
set_option linter.unusedVariables false
set_option linter.unusedSimpArgs false

mutual
def larderref04_read.l0 : Nat → ByteArray → List (List ByteArray) → Int → Option ((List (List ByteArray)) × Int × Int × Int × Int × Int × Int)
  | 0, _, _, _ => none
  | k + 1, x0, x5, x6 => if x6 < (x0.size : Int) then (if (x5.length : Int) = 4096 then ((larderref04_placed.f k x0 7 x6).bind fun bt700102 => (some (x5, (x5.length : Int), bt700102.1, bt700102.2.1, bt700102.2.2.1, bt700102.2.2.2.1, bt700102.2.2.2.2))) else ((larderref04_row.f k x0 x6).bind fun bt700107 => (if bt700107.2.2.1 = 0 then (if bt700107.2.1 < (x0.size : Int) then (if (wrap64 (bt700107.2.1 + 1)) = (x0.size : Int) then (larderref04_read.j1 k x0 x5 bt700107.1 bt700107.2.1 true) else (if 0 ≤ (wrap64 (bt700107.2.1 + 1)) then (if (wrap64 (bt700107.2.1 + 1)) < (x0.size : Int) then (larderref04_read.j1 k x0 x5 bt700107.1 bt700107.2.1 ((bt x0 (wrap64 (bt700107.2.1 + 1))) != 10)) else (none)) else (none))) else (larderref04_read.j1 k x0 x5 bt700107.1 bt700107.2.1 false)) else (some (x5, (x5.length : Int), bt700107.2.2.1, bt700107.2.2.2.1, bt700107.2.2.2.2.1, bt700107.2.2.2.2.2.1, bt700107.2.2.2.2.2.2))))) else (some (x5, (x5.length : Int), 0, 0, 0, 0, 0))
def larderref04_read.j1 : Nat → ByteArray → List (List ByteArray) → List ByteArray → Int → Bool → Option ((List (List ByteArray)) × Int × Int × Int × Int × Int × Int)
  | 0, _, _, _, _, _ => none
  | k + 1, x0, x5, x7, x8, x54 => if x54 = true then ((larderref04_placed.f k x0 3 x8).bind fun bt700117 => (some (x5, (x5.length : Int), bt700117.1, bt700117.2.1, bt700117.2.2.1, bt700117.2.2.2.1, bt700117.2.2.2.2))) else (if (x5.length : Int) > 0 then (if 0 < (x5.length : Int) then (larderref04_read.j2 k x0 x5 x7 x8 ((x7.length : Int) != ((rd_L2 x5 0).length : Int))) else (none)) else (larderref04_read.j2 k x0 x5 x7 x8 false))
def larderref04_read.j2 : Nat → ByteArray → List (List ByteArray) → List ByteArray → Int → Bool → Option ((List (List ByteArray)) × Int × Int × Int × Int × Int × Int)
  | 0, _, _, _, _, _ => none
  | k + 1, x0, x5, x7, x8, x72 => if x72 = true then ((larderref04_placed.f k x0 8 x8).bind fun bt700123 => (some (x5, (x5.length : Int), bt700123.1, bt700123.2.1, bt700123.2.2.1, bt700123.2.2.2.1, bt700123.2.2.2.2))) else (if x5.length < 5864062014805 then ((some (x5 ++ [x7] : List (List ByteArray))).bind fun y700128 => (if x8 = (x0.size : Int) then (some (y700128, wrap64 ((y700128.length : Int) - 1), 0, 0, 0, 0, 0)) else (larderref04_read.l0 k x0 y700128 (wrap64 (x8 + 2))))) else (none))
end
def larderref04_read.f (k : Nat) (a0 : ByteArray) : Option ((List (List ByteArray)) × Int × Int × Int × Int × Int × Int) := larderref04_read.l0 k a0 ([] : List (List ByteArray)) 0
theorem larderref04_read.mono_l : ∀ k, (∀ y0 y1 y2, LeO (larderref04_read.l0 k y0 y1 y2) (larderref04_read.l0 (k + 1) y0 y1 y2)) ∧ (∀ y0 y1 y2 y3 y4, LeO (larderref04_read.j1 k y0 y1 y2 y3 y4) (larderref04_read.j1 (k + 1) y0 y1 y2 y3 y4)) ∧ (∀ y0 y1 y2 y3 y4, LeO (larderref04_read.j2 k y0 y1 y2 y3 y4) (larderref04_read.j2 (k + 1) y0 y1 y2 y3 y4))
  | 0 => ⟨fun _ _ _ r h => by simp [larderref04_read.l0] at h, fun _ _ _ _ _ r h => by simp [larderref04_read.j1] at h, fun _ _ _ _ _ r h => by simp [larderref04_read.j2] at h⟩
  | k + 1 => by
    obtain ⟨ih0, ih1, ih2⟩ := larderref04_read.mono_l k
    refine ⟨?_, ?_, ?_⟩
    · intro y0 y1 y2
      unfold larderref04_read.l0
      repeat' first
      | (with_reducible exact ih0 _ _ _)
      | (with_reducible exact ih1 _ _ _ _ _)
      | (with_reducible exact ih2 _ _ _ _ _)
      | (with_reducible exact larderref04_placed.mono _ _ _ _)
      | (with_reducible exact larderref04_row.mono _ _ _)
      | (with_reducible exact LeO.refl _)
      | (with_reducible exact LeO.none _)
      | (with_reducible refine LeO.ite ?_ ?_)
      | (with_reducible refine LeO.bind ?_ (fun _ => ?_))
      | exact ih0 _ _ _
      | exact ih1 _ _ _ _ _
      | exact ih2 _ _ _ _ _
      | exact larderref04_placed.mono _ _ _ _
      | exact larderref04_row.mono _ _ _
      | exact LeO.none _
      | refine LeO.ite ?_ ?_
      | refine LeO.bind ?_ (fun _ => ?_)
    · intro y0 y1 y2 y3 y4
      unfold larderref04_read.j1
      repeat' first
      | (with_reducible exact ih0 _ _ _)
      | (with_reducible exact ih1 _ _ _ _ _)
      | (with_reducible exact ih2 _ _ _ _ _)
      | (with_reducible exact larderref04_placed.mono _ _ _ _)
      | (with_reducible exact larderref04_row.mono _ _ _)
      | (with_reducible exact LeO.refl _)
      | (with_reducible exact LeO.none _)
      | (with_reducible refine LeO.ite ?_ ?_)
      | (with_reducible refine LeO.bind ?_ (fun _ => ?_))
      | exact ih0 _ _ _
      | exact ih1 _ _ _ _ _
      | exact ih2 _ _ _ _ _
      | exact larderref04_placed.mono _ _ _ _
      | exact larderref04_row.mono _ _ _
      | exact LeO.none _
      | refine LeO.ite ?_ ?_
      | refine LeO.bind ?_ (fun _ => ?_)
    · intro y0 y1 y2 y3 y4
      unfold larderref04_read.j2
      repeat' first
      | (with_reducible exact ih0 _ _ _)
      | (with_reducible exact ih1 _ _ _ _ _)
      | (with_reducible exact ih2 _ _ _ _ _)
      | (with_reducible exact larderref04_placed.mono _ _ _ _)
      | (with_reducible exact larderref04_row.mono _ _ _)
      | (with_reducible exact LeO.refl _)
      | (with_reducible exact LeO.none _)
      | (with_reducible refine LeO.ite ?_ ?_)
      | (with_reducible refine LeO.bind ?_ (fun _ => ?_))
      | exact ih0 _ _ _
      | exact ih1 _ _ _ _ _
      | exact ih2 _ _ _ _ _
      | exact larderref04_placed.mono _ _ _ _
      | exact larderref04_row.mono _ _ _
      | exact LeO.none _
      | refine LeO.ite ?_ ?_
      | refine LeO.bind ?_ (fun _ => ?_)
theorem larderref04_read.mono : ∀ a0 k, LeO (larderref04_read.f k a0) (larderref04_read.f (k + 1) a0) := by
  intro a0 k
  obtain ⟨ih0, ih1, ih2⟩ := larderref04_read.mono_l k
  unfold larderref04_read.f
  repeat' first
      | (with_reducible exact ih0 _ _ _)
      | (with_reducible exact ih1 _ _ _ _ _)
      | (with_reducible exact ih2 _ _ _ _ _)
      | (with_reducible exact larderref04_placed.mono _ _ _ _)
      | (with_reducible exact larderref04_row.mono _ _ _)
      | (with_reducible exact LeO.refl _)
      | (with_reducible exact LeO.none _)
      | (with_reducible refine LeO.ite ?_ ?_)
      | (with_reducible refine LeO.bind ?_ (fun _ => ?_))
      | exact ih0 _ _ _
      | exact ih1 _ _ _ _ _
      | exact ih2 _ _ _ _ _
      | exact larderref04_placed.mono _ _ _ _
      | exact larderref04_row.mono _ _ _
      | exact LeO.none _
      | refine LeO.ite ?_ ?_
      | refine LeO.bind ?_ (fun _ => ?_)
set_option maxHeartbeats 8000000 in
set_option maxRecDepth 100000 in
theorem larderref04_read.calls (k : Nat) (a0 : ByteArray) (r1 : List (List ByteArray)) (r2 : Int) (r3 : Int) (r4 : Int) (r5 : Int) (r6 : Int) (r7 : Int) (w : World) (h : larderref04_read.f k a0 = some (r1, r2, r3, r4, r5, r6, r7)) :
    Calls Tryz.prog 70 #[.string a0] w fun e w' => ∃ v0_ : Value, e = .returned (.tuple #[v0_, .int .i64 r2, .agg #[.int .i64 r3, .int .i64 r4, .int .i64 r5, .int .i64 r6, .int .i64 r7]]) ∧ Kd.S (Kd.slice 9 Kd.string) 28 w' w.heap.size (fun _ => True) v0_ r1 ∧ Below w.heap.size w w' := by
  have hu46 := Tryz.underlying46
  have HB := Aside0.mk (Below.refl w.heap.size w)
  have H : (larderref04_read.l0 k a0 ([] : List (List ByteArray)) 0) = some (r1, r2, r3, r4, r5, r6, r7) := h
  clear h
  have H' := Aside0.mk H
  clear H
  go_enter Tryz.func70, Tryz.ntmps70
  go_wp2_with (first | ((with_reducible refine gate_dst (N := 4) rfl ?_); refine box_event ?hg (N := 4) ?hd (cs := #[.int .i64 0, .int .i64 0, .int .i64 0, .int .i64 0, .int .i64 0]) (t := 46) ?hr ?_; (case hd => rfl); (case hg => rfl); (case hr => first | (go_simp; done) | (go_simp; rfl)); intro gb700101 hg w2 hbox hb; have n0_ := Aside0.mk (below_step (by repeat (first | (with_reducible first | exact HB.out | apply below_alloc | apply pw_below_drewN | apply below_drew1) | exact HB.out)) hb); have n1_ := Aside0.mk (hbox); have n2_ := Aside0.mk ((by rw [hg]; exact (below_size (by repeat (first | (with_reducible first | exact HB.out | apply below_alloc | apply pw_below_drewN | apply below_drew1) | exact HB.out))) : w.heap.size ≤ gb700101)); have n3_ := Aside0.mk ((by rw [hg]; exact (below_size (by repeat (first | (with_reducible first | exact HB.out | apply below_alloc | apply pw_below_drewN | apply below_drew1) | exact HB.out))) : w.heap.size ≤ gb700101)); clear HB; have HB := n0_; have BK700101 := n1_; have GW700101 := n2_; have GE700101 := n3_; clear n0_ n1_ n2_ n3_; clear hb hbox hg))
  go_loopg [5, 6] k (fun kq v5 v6 w' => ∃ (x5_1 : List (List ByteArray)) (x6_1 : Int) (x700102000_1 : Int) (x700102001_1 : Int) (x700102002_1 : Int) (x700102003_1 : Int) (x700102004_1 : Int), v6 = .int .i64 x6_1 ∧ Aside0 (larderref04_read.l0 kq a0 x5_1 x6_1 = some (r1, r2, r3, r4, r5, r6, r7)) ∧ Aside0 (kq ≤ k) ∧ Aside0 (Kd.S (Kd.slice 9 Kd.string) 28 w' w.heap.size (fun _ => True) v5 x5_1) ∧ Aside0 (w'.heap[gb700101]? = some (.cells #[.int .i64 x700102000_1, .int .i64 x700102001_1, .int .i64 x700102002_1, .int .i64 x700102003_1, .int .i64 x700102004_1] 46 (0, 0))) ∧ Aside0 (Below w.heap.size w w'))
  case atStart => exact ⟨(([] : List (List ByteArray))), (0), (0), (0), (0), (0), (0), (by first | rfl | (simp; done) | (simp [*]; done)), H', ⟨Nat.le_refl _⟩, ⟨by first | exact Kd.S_nil _ _ _ _ _ | exact Kd.N_nil _ _ _ _ _ | exact Kd.V_nil _ _ _ _ _ | exact Kd.Q_nil _ _ _ _ _ | exact Kd.R_nil _ _ _ _ _⟩, ⟨by (with_reducible repeat (first | refine blk_drewN ?_ _ | refine blk_drew ?_ | refine blk_alloc ?_ _)); exact BK700101.out⟩, ⟨by repeat (first | (with_reducible first | exact HB.out | apply below_alloc | apply pw_below_drewN | apply below_drew1 | refine below_set ?_ GE700101.out) | exact HB.out)⟩⟩
  case round =>
    clear H'
    try clear p2
    obtain ⟨x5_1, x6_1, x700102000_1, x700102001_1, x700102002_1, x700102003_1, x700102004_1, rfl, HA, HK1, HO_5, BK700101, HB⟩ := hrel
    cases gk with
    | zero => exact absurd HA.out (by simp [larderref04_read.l0])
    | succ k1 =>
      have H := HA.out
      clear HA
      simp only [larderref04_read.l0] at H
      by_cases c3 : x6_1 < (a0.size : Int)
      · rw [if_pos c3] at H
        have c3b0 : decide (x6_1 < (a0.size : Int)) = true := decide_eq_true c3
        clear c3
        by_cases c4 : (x5_1.length : Int) = 4096
        · rw [if_pos c4] at H
          have c4b0 : ((x5_1.length : Int) == 4096) = true := beq_iff_eq.mpr c4
          have c4b1 : ((x5_1.length : Int) != 4096) = false := bne_eq_false_iff_eq.mpr c4
          clear c4
          replace H := Option.bind_eq_some_iff.mp H
          obtain ⟨⟨t700102, t700103, t700104, t700105, t700106⟩, A50, H⟩ := H
          replace H : (some (x5_1, (x5_1.length : Int), t700102, t700103, t700104, t700105, t700106)) = some (r1, r2, r3, r4, r5, r6, r7) := H
          have A5 := Aside0.mk A50
          clear A50
          simp only [Option.some.injEq, Prod.mk.injEq] at H
          obtain ⟨rfl, rfl, rfl, rfl, rfl, rfl, rfl⟩ := H
          obtain ⟨Ao6, co6, eo6⟩ := Kd.S_slice HO_5.out
          subst eo6
          go_wp2_with (first | ((with_reducible refine gate_callee (f := 71) rfl ?_); refine goesL_ (some 22) rfl rfl Tryz.func71 (by kernel_rfl) rfl #[.string a0, .int .i64 7, .int .i64 x6_1] rfl (by (try simp only [List.map_toArray, List.map_cons, List.map_nil]); first | done | rfl | (simp only [List.length_drop, List.length_take]; rfl)) ?_; (with_reducible refine (larderref04_placed.calls k1 a0 7 x6_1 t700102 t700103 t700104 t700105 t700106 _ A5.out).mono ?_); rintro e w7 ⟨rfl, hb⟩; refine ⟨_, rfl, ?_⟩; have n0_ := Aside0.mk (Kd.S_below (by (with_reducible repeat (first | apply Kd.S_alloc | apply Kd.S_drewN | apply Kd.S_drew)); exact HO_5.out) hb); have n1_ := Aside0.mk (blk_below (g := gb700101) (o := .cells #[.int .i64 x700102000_1, .int .i64 x700102001_1, .int .i64 x700102002_1, .int .i64 x700102003_1, .int .i64 x700102004_1] 46 (0, 0)) (by (with_reducible repeat (first | refine blk_drewN ?_ _ | refine blk_drew ?_ | refine blk_alloc ?_ _)); exact BK700101.out) hb); have n2_ := Aside0.mk (below_step (by repeat (first | (with_reducible first | exact HB.out | apply below_alloc | apply pw_below_drewN | apply below_drew1 | refine below_set ?_ GE700101.out) | exact HB.out)) hb); clear HO_5; clear BK700101; clear HB; have HO_5 := n0_; have BK700101 := n1_; have HB := n2_; clear n0_ n1_ n2_; (try clear hb); (try clear hb2); (try clear hk); (try clear hi); have hcz8_0 : w7.cell? ⟨gb700101, 0, none⟩ = some (.int .i64 x700102000_1) := (blk_cell BK700101.out 0).trans rfl; have hcz8_1 : w7.cell? ⟨gb700101, 1, none⟩ = some (.int .i64 x700102001_1) := (blk_cell BK700101.out 1).trans rfl; have hcz8_2 : w7.cell? ⟨gb700101, 2, none⟩ = some (.int .i64 x700102002_1) := (blk_cell BK700101.out 2).trans rfl; have hcz8_3 : w7.cell? ⟨gb700101, 3, none⟩ = some (.int .i64 x700102003_1) := (blk_cell BK700101.out 3).trans rfl; have hcz8_4 : w7.cell? ⟨gb700101, 4, none⟩ = some (.int .i64 x700102004_1) := (blk_cell BK700101.out 4).trans rfl; have hfz8_0 := blk_frozen BK700101.out 0; have hfz8_1 := blk_frozen BK700101.out 1; have hfz8_2 := blk_frozen BK700101.out 2; have hfz8_3 := blk_frozen BK700101.out 3; have hfz8_4 := blk_frozen BK700101.out 4))
          refine bodyPost_ret (results_list (rs := [.tmp 2, .tmp 3, .cell 4 46]) rfl (by simp) (.tmp (.tmp (.cell gb700101 46 #[.int .i64 t700102, .int .i64 t700103, .int .i64 t700104, .int .i64 t700105, .int .i64 t700106] (0, 0) _ rfl (by (with_reducible repeat (first | refine blk_drewN ?_ _ | refine blk_drew ?_ | refine blk_alloc ?_ _)); refine blk_put (cs := #[.int .i64 t700102, .int .i64 t700103, .int .i64 t700104, .int .i64 t700105, .int .i64 x700102004_1]) ?_ 4 _ rfl; (with_reducible repeat (first | refine blk_drewN ?_ _ | refine blk_drew ?_ | refine blk_alloc ?_ _)); refine blk_put (cs := #[.int .i64 t700102, .int .i64 t700103, .int .i64 t700104, .int .i64 x700102003_1, .int .i64 x700102004_1]) ?_ 3 _ rfl; (with_reducible repeat (first | refine blk_drewN ?_ _ | refine blk_drew ?_ | refine blk_alloc ?_ _)); refine blk_put (cs := #[.int .i64 t700102, .int .i64 t700103, .int .i64 x700102002_1, .int .i64 x700102003_1, .int .i64 x700102004_1]) ?_ 2 _ rfl; (with_reducible repeat (first | refine blk_drewN ?_ _ | refine blk_drew ?_ | refine blk_alloc ?_ _)); refine blk_put (cs := #[.int .i64 t700102, .int .i64 x700102001_1, .int .i64 x700102002_1, .int .i64 x700102003_1, .int .i64 x700102004_1]) ?_ 1 _ rfl; (with_reducible repeat (first | refine blk_drewN ?_ _ | refine blk_drew ?_ | refine blk_alloc ?_ _)); refine blk_put (cs := #[.int .i64 x700102000_1, .int .i64 x700102001_1, .int .i64 x700102002_1, .int .i64 x700102003_1, .int .i64 x700102004_1]) ?_ 0 _ rfl; (with_reducible repeat (first | refine blk_drewN ?_ _ | refine blk_drew ?_ | refine blk_alloc ?_ _)); exact BK700101.out) Tryz.underlying46 rfl (by kernel_rfl) .nil)))) rfl ?_
          exact ⟨_, by first | rfl | (simp [errW_none, errW_some] <;> rfl) | (simp [*, errW_none, errW_some] <;> rfl), by (with_reducible repeat (first | apply Kd.S_alloc | apply Kd.S_drewN | apply Kd.S_drew)); exact Kd.S_mono (Kd.S_far (p := ⟨gb700101, 4, none⟩) (Kd.S_far (p := ⟨gb700101, 3, none⟩) (Kd.S_far (p := ⟨gb700101, 2, none⟩) (Kd.S_far (p := ⟨gb700101, 1, none⟩) (Kd.S_far (p := ⟨gb700101, 0, none⟩) (Kd.S_types HO_5.out BK700101.out (by decide)) (fun _ hk => hk.2) (.int .i64 t700102)) (fun _ hk => hk.2) (.int .i64 t700103)) (fun _ hk => hk.2) (.int .i64 t700104)) (fun _ hk => hk.2) (.int .i64 t700105)) (fun _ hk => hk.2) (.int .i64 t700106)) (fun _ hk => trivial), by repeat (first | (with_reducible first | exact HB.out | apply below_alloc | apply pw_below_drewN | apply below_drew1 | refine below_set ?_ GE700101.out) | exact HB.out)⟩
        · rw [if_neg c4] at H
          have c4b0 : ((x5_1.length : Int) == 4096) = false := beq_eq_false_iff_ne.mpr c4
          have c4b1 : ((x5_1.length : Int) != 4096) = true := bne_iff_ne.mpr c4
          replace H := Option.bind_eq_some_iff.mp H
          obtain ⟨⟨t700107, t700110, t700111, t700112, t700113, t700114, t700115⟩, A90, H⟩ := H
          replace H : (if t700111 = 0 then (if t700110 < (a0.size : Int) then (if (wrap64 (t700110 + 1)) = (a0.size : Int) then (larderref04_read.j1 k1 a0 x5_1 t700107 t700110 true) else (if 0 ≤ (wrap64 (t700110 + 1)) then (if (wrap64 (t700110 + 1)) < (a0.size : Int) then (larderref04_read.j1 k1 a0 x5_1 t700107 t700110 ((bt a0 (wrap64 (t700110 + 1))) != 10)) else (none)) else (none))) else (larderref04_read.j1 k1 a0 x5_1 t700107 t700110 false)) else (some (x5_1, (x5_1.length : Int), t700111, t700112, t700113, t700114, t700115))) = some (r1, r2, r3, r4, r5, r6, r7) := H
          have A9 := Aside0.mk A90
          clear A90
          by_cases c10 : t700111 = 0
          · rw [if_pos c10] at H
            have c10b0 : (t700111 == 0) = true := beq_iff_eq.mpr c10
            have c10b1 : (t700111 != 0) = false := bne_eq_false_iff_eq.mpr c10
            clear c10
            have HC11 := Aside0.mk H
            clear H
            obtain ⟨Ao12, co12, eo12⟩ := Kd.S_slice HO_5.out
            subst eo12
            go_upto_region 9 with (first | ((with_reducible refine gate_callee (f := 90) rfl ?_); refine goesL_ (some 26) rfl rfl Tryz.func90 (by kernel_rfl) rfl #[.string a0, .int .i64 x6_1] rfl (by (try simp only [List.map_toArray, List.map_cons, List.map_nil]); first | done | rfl | (simp only [List.length_drop, List.length_take]; rfl)) ?_; (with_reducible refine (larderref04_row.calls k1 a0 x6_1 t700107 t700110 t700111 t700112 t700113 t700114 t700115 _ A9.out).mono ?_); rintro e w13 ⟨v700108, rfl, ho0, hb⟩; refine ⟨_, rfl, ?_⟩; have n0_ := Aside0.mk (Kd.S_elder' (by (with_reducible repeat (first | apply Kd.S_alloc | apply Kd.S_drewN | apply Kd.S_drew)); exact HO_5.out) (Kd.R_base ho0) hb); have n1_ := Aside0.mk (Kd.R_lower ho0 (below_size (by repeat (first | (with_reducible first | exact HB.out | apply below_alloc | apply pw_below_drewN | apply below_drew1 | refine below_set ?_ GE700101.out) | exact HB.out)))); have n2_ := Aside0.mk (blk_below (g := gb700101) (o := .cells #[.int .i64 x700102000_1, .int .i64 x700102001_1, .int .i64 x700102002_1, .int .i64 x700102003_1, .int .i64 x700102004_1] 46 (0, 0)) (by (with_reducible repeat (first | refine blk_drewN ?_ _ | refine blk_drew ?_ | refine blk_alloc ?_ _)); exact BK700101.out) hb); have n3_ := Aside0.mk (below_step (by repeat (first | (with_reducible first | exact HB.out | apply below_alloc | apply pw_below_drewN | apply below_drew1 | refine below_set ?_ GE700101.out) | exact HB.out)) hb); clear HO_5; clear BK700101; clear HB; have HO_5 := n0_; have HO700109 := n1_; have BK700101 := n2_; have HB := n3_; clear n0_ n1_ n2_ n3_; (try clear hb); (try clear hb2); (try clear hk); (try clear hi); (try clear ho0)) | ((with_reducible refine gate_dst (N := 9) rfl ?_); refine box_event ?hg (N := 9) ?hd (cs := #[.int .i64 0, .int .i64 0, .int .i64 0, .int .i64 0, .int .i64 0]) (t := 46) ?hr ?_; (case hd => rfl); (case hg => rfl); (case hr => first | (go_simp; done) | (go_simp; rfl)); intro gb700116 hg w14 hbox hb; have n0_ := Aside0.mk (Kd.S_below (by (with_reducible repeat (first | apply Kd.S_alloc | apply Kd.S_drewN | apply Kd.S_drew)); exact HO_5.out) hb); have n1_ := Aside0.mk (Kd.R_below (by (with_reducible repeat (first | apply Kd.R_alloc | apply Kd.R_drewN | apply Kd.R_drew)); exact HO700109.out) hb); have n2_ := Aside0.mk (blk_below (g := gb700101) (o := .cells #[.int .i64 x700102000_1, .int .i64 x700102001_1, .int .i64 x700102002_1, .int .i64 x700102003_1, .int .i64 x700102004_1] 46 (0, 0)) (by (with_reducible repeat (first | refine blk_drewN ?_ _ | refine blk_drew ?_ | refine blk_alloc ?_ _)); exact BK700101.out) hb); have n3_ := Aside0.mk (below_step (by repeat (first | (with_reducible first | exact HB.out | apply below_alloc | apply pw_below_drewN | apply below_drew1 | refine below_set ?_ GE700101.out) | exact HB.out)) hb); have n4_ := Aside0.mk (hbox); have n5_ := Aside0.mk ((by rw [hg]; exact (below_size (by repeat (first | (with_reducible first | exact HB.out | apply below_alloc | apply pw_below_drewN | apply below_drew1 | refine below_set ?_ GE700101.out) | exact HB.out))) : w.heap.size ≤ gb700116)); have n6_ := Aside0.mk ((by rw [hg]; exact (below_size (by repeat (first | (with_reducible first | exact HB.out | apply below_alloc | apply pw_below_drewN | apply below_drew1 | refine below_set ?_ GE700101.out) | exact HB.out))) : w.heap.size ≤ gb700116)); have n7_ := Aside0.mk ((by rw [hg]; exact Nat.ne_of_lt (blk_lt (g := gb700101) (o := .cells #[.int .i64 x700102000_1, .int .i64 x700102001_1, .int .i64 x700102002_1, .int .i64 x700102003_1, .int .i64 x700102004_1] 46 (0, 0)) (by (with_reducible repeat (first | refine blk_drewN ?_ _ | refine blk_drew ?_ | refine blk_alloc ?_ _)); exact BK700101.out)) : gb700101 ≠ gb700116)); have n8_ := Aside0.mk ((by rw [hg]; exact Nat.ne_of_gt (blk_lt (g := gb700101) (o := .cells #[.int .i64 x700102000_1, .int .i64 x700102001_1, .int .i64 x700102002_1, .int .i64 x700102003_1, .int .i64 x700102004_1] 46 (0, 0)) (by (with_reducible repeat (first | refine blk_drewN ?_ _ | refine blk_drew ?_ | refine blk_alloc ?_ _)); exact BK700101.out)) : gb700116 ≠ gb700101)); clear HO_5; clear HO700109; clear BK700101; clear HB; have HO_5 := n0_; have HO700109 := n1_; have BK700101 := n2_; have HB := n3_; have BK700116 := n4_; have GW700116 := n5_; have GE700116 := n6_; have NB700101_700116 := n7_; have NB700116_700101 := n8_; clear n0_ n1_ n2_ n3_ n4_ n5_ n6_ n7_ n8_; clear hb hbox hg; have hnb15 := NB700116_700101.out; have hnc15 := NB700101_700116.out; have hcz16_0 : w14.cell? ⟨gb700116, 0, none⟩ = some (.int .i64 0) := (blk_cell BK700116.out 0).trans rfl; have hcz16_1 : w14.cell? ⟨gb700116, 1, none⟩ = some (.int .i64 0) := (blk_cell BK700116.out 1).trans rfl; have hcz16_2 : w14.cell? ⟨gb700116, 2, none⟩ = some (.int .i64 0) := (blk_cell BK700116.out 2).trans rfl; have hcz16_3 : w14.cell? ⟨gb700116, 3, none⟩ = some (.int .i64 0) := (blk_cell BK700116.out 3).trans rfl; have hcz16_4 : w14.cell? ⟨gb700116, 4, none⟩ = some (.int .i64 0) := (blk_cell BK700116.out 4).trans rfl; have hfz16_0 := blk_frozen BK700116.out 0; have hfz16_1 := blk_frozen BK700116.out 1; have hfz16_2 := blk_frozen BK700116.out 2; have hfz16_3 := blk_frozen BK700116.out 3; have hfz16_4 := blk_frozen BK700116.out 4))
            (try simp only [Act.put, List.setIfInBounds_toArray, List.set_cons_zero, List.set_cons_succ])
            go_cut [54] (fun v54 wc => ∃ (kq : Nat) (x54_10 : Bool), v54 = .bool x54_10 ∧ Aside0 (larderref04_read.j1 kq a0 x5_1 t700107 t700110 x54_10 = some (r1, r2, r3, r4, r5, r6, r7)) ∧ Aside0 (kq ≤ k1) ∧ Aside0 (Kd.S (Kd.slice 9 Kd.string) 28 wc w.heap.size (fun k_ => some k_ ≠ (v700108 : Value).ownBlock) (.slice Ao12 x5_1.length co12) x5_1) ∧ Aside0 (Kd.R Kd.string 9 wc w.heap.size (fun _ => True) v700108 t700107) ∧ Aside0 (wc.heap[gb700101]? = some (.cells #[.int .i64 x700102000_1, .int .i64 x700102001_1, .int .i64 x700102002_1, .int .i64 x700102003_1, .int .i64 x700102004_1] 46 (0, 0))) ∧ Aside0 (wc.heap[gb700116]? = some (.cells #[.int .i64 t700111, .int .i64 t700112, .int .i64 t700113, .int .i64 t700114, .int .i64 t700115] 46 (0, 0))) ∧ Aside0 (Below w.heap.size w wc))
            case first =>
              have H := HC11.out
              clear HC11
              by_cases c17 : t700110 < (a0.size : Int)
              · rw [if_pos c17] at H
                have c17b0 : decide (t700110 < (a0.size : Int)) = true := decide_eq_true c17
                clear c17
                (first | rw [c17b0] | (simp only [i64_w, i32_w]; rw [c17b0]) | skip)
                by_cases c18 : (wrap64 (t700110 + 1)) = (a0.size : Int)
                · rw [if_pos c18] at H
                  have c18b0 : ((wrap64 (t700110 + 1)) == (a0.size : Int)) = true := beq_iff_eq.mpr c18
                  have c18b1 : ((wrap64 (t700110 + 1)) != (a0.size : Int)) = false := bne_eq_false_iff_eq.mpr c18
                  clear c18
                  have H' := Aside0.mk H
                  clear H
                  go_wp2
                  go_meet
                  case rel => exact ⟨_, (true), (by first | rfl | (simp; done) | (simp [*]; done)), H', ⟨by have := HK1.out; first | omega | exact Nat.le_refl _⟩, ⟨by (with_reducible repeat (first | apply Kd.S_alloc | apply Kd.S_drewN | apply Kd.S_drew)); exact Kd.S_mono (Kd.S_far (p := ⟨gb700116, 4, none⟩) (Kd.S_far (p := ⟨gb700116, 3, none⟩) (Kd.S_far (p := ⟨gb700116, 2, none⟩) (Kd.S_far (p := ⟨gb700116, 1, none⟩) (Kd.S_far (p := ⟨gb700116, 0, none⟩) (Kd.S_types HO_5.out BK700116.out (by decide)) (fun _ hk => hk.2) (.int .i64 t700111)) (fun _ hk => hk.2) (.int .i64 t700112)) (fun _ hk => hk.2) (.int .i64 t700113)) (fun _ hk => hk.2) (.int .i64 t700114)) (fun _ hk => hk.2) (.int .i64 t700115)) (fun _ hk => hk.1.2)⟩, ⟨by (with_reducible repeat (first | apply Kd.R_alloc | apply Kd.R_drewN | apply Kd.R_drew)); exact Kd.R_mono (Kd.R_far (p := ⟨gb700116, 4, none⟩) (Kd.R_far (p := ⟨gb700116, 3, none⟩) (Kd.R_far (p := ⟨gb700116, 2, none⟩) (Kd.R_far (p := ⟨gb700116, 1, none⟩) (Kd.R_far (p := ⟨gb700116, 0, none⟩) (Kd.R_types HO700109.out BK700116.out (by decide)) (fun _ hk => hk.2) (.int .i64 t700111)) (fun _ hk => hk.2) (.int .i64 t700112)) (fun _ hk => hk.2) (.int .i64 t700113)) (fun _ hk => hk.2) (.int .i64 t700114)) (fun _ hk => hk.2) (.int .i64 t700115)) (fun _ hk => trivial)⟩, ⟨by (with_reducible repeat (first | refine blk_drewN ?_ _ | refine blk_drew ?_ | refine blk_alloc ?_ _)); refine blk_far ?_ NB700101_700116.out _; (with_reducible repeat (first | refine blk_drewN ?_ _ | refine blk_drew ?_ | refine blk_alloc ?_ _)); refine blk_far ?_ NB700101_700116.out _; (with_reducible repeat (first | refine blk_drewN ?_ _ | refine blk_drew ?_ | refine blk_alloc ?_ _)); refine blk_far ?_ NB700101_700116.out _; (with_reducible repeat (first | refine blk_drewN ?_ _ | refine blk_drew ?_ | refine blk_alloc ?_ _)); refine blk_far ?_ NB700101_700116.out _; (with_reducible repeat (first | refine blk_drewN ?_ _ | refine blk_drew ?_ | refine blk_alloc ?_ _)); refine blk_far ?_ NB700101_700116.out _; (with_reducible repeat (first | refine blk_drewN ?_ _ | refine blk_drew ?_ | refine blk_alloc ?_ _)); exact BK700101.out⟩, ⟨by (with_reducible repeat (first | refine blk_drewN ?_ _ | refine blk_drew ?_ | refine blk_alloc ?_ _)); refine blk_put (cs := #[.int .i64 t700111, .int .i64 t700112, .int .i64 t700113, .int .i64 t700114, .int .i64 0]) ?_ 4 _ rfl; (with_reducible repeat (first | refine blk_drewN ?_ _ | refine blk_drew ?_ | refine blk_alloc ?_ _)); refine blk_put (cs := #[.int .i64 t700111, .int .i64 t700112, .int .i64 t700113, .int .i64 0, .int .i64 0]) ?_ 3 _ rfl; (with_reducible repeat (first | refine blk_drewN ?_ _ | refine blk_drew ?_ | refine blk_alloc ?_ _)); refine blk_put (cs := #[.int .i64 t700111, .int .i64 t700112, .int .i64 0, .int .i64 0, .int .i64 0]) ?_ 2 _ rfl; (with_reducible repeat (first | refine blk_drewN ?_ _ | refine blk_drew ?_ | refine blk_alloc ?_ _)); refine blk_put (cs := #[.int .i64 t700111, .int .i64 0, .int .i64 0, .int .i64 0, .int .i64 0]) ?_ 1 _ rfl; (with_reducible repeat (first | refine blk_drewN ?_ _ | refine blk_drew ?_ | refine blk_alloc ?_ _)); refine blk_put (cs := #[.int .i64 0, .int .i64 0, .int .i64 0, .int .i64 0, .int .i64 0]) ?_ 0 _ rfl; (with_reducible repeat (first | refine blk_drewN ?_ _ | refine blk_drew ?_ | refine blk_alloc ?_ _)); exact BK700116.out⟩, ⟨by repeat (first | (with_reducible first | exact HB.out | apply below_alloc | apply pw_below_drewN | apply below_drew1 | refine below_set ?_ GE700101.out | refine below_set ?_ GE700116.out) | exact HB.out)⟩⟩
                · rw [if_neg c18] at H
                  have c18b0 : ((wrap64 (t700110 + 1)) == (a0.size : Int)) = false := beq_eq_false_iff_ne.mpr c18
                  have c18b1 : ((wrap64 (t700110 + 1)) != (a0.size : Int)) = true := bne_iff_ne.mpr c18
                  obtain ⟨ji19, hji19⟩ : ∃ j_ : Int, (wrap64 (t700110 + 1)) = j_ := ⟨_, rfl⟩
                  replace H : (if 0 ≤ (ji19) then (if (ji19) < (a0.size : Int) then (larderref04_read.j1 k1 a0 x5_1 t700107 t700110 ((bt a0 (ji19)) != 10)) else (none)) else (none)) = some (r1, r2, r3, r4, r5, r6, r7) := by first | (rw [hji19] at H; exact H) | (simp only [hji19] at H ⊢; exact H)
                  (try rw [hji19] at c18b0)
                  (try rw [hji19] at c18b1)
                  have hji19w : (IntKind.i64.wrap (t700110 + 1)) = ji19 := (i64_w _).trans hji19
                  by_cases c20 : 0 ≤ (ji19)
                  · rw [if_pos c20] at H
                    have c20b0 : decide (0 ≤ (ji19)) = true := decide_eq_true c20
                    clear c20
                    by_cases c21 : (ji19) < (a0.size : Int)
                    · rw [if_pos c21] at H
                      have c21b0 : decide ((ji19) < (a0.size : Int)) = true := decide_eq_true c21
                      clear c21
                      have H' := Aside0.mk H
                      clear H
                      have p22 : 0 ≤ ((ji19) : Int) := of_decide_eq_true (by first | (with_reducible assumption) | assumption)
                      have q22 : (ji19) < (a0.size : Int) := of_decide_eq_true (by first | (with_reducible assumption) | assumption)
                      have hx22 := bt_at a0 (ji19)
                      replace p22 := eq_true p22
                      replace q22 := eq_true q22
                      go_wp2
                      go_meet
                      case rel => exact ⟨_, (((bt a0 (ji19)) != 10)), (by first | rfl | (simp; done) | (simp only [← hji19] <;> (first | rfl | simp)) | (simp [*]; done)), H', ⟨by have := HK1.out; first | omega | exact Nat.le_refl _⟩, ⟨by (with_reducible repeat (first | apply Kd.S_alloc | apply Kd.S_drewN | apply Kd.S_drew)); exact Kd.S_mono (Kd.S_far (p := ⟨gb700116, 4, none⟩) (Kd.S_far (p := ⟨gb700116, 3, none⟩) (Kd.S_far (p := ⟨gb700116, 2, none⟩) (Kd.S_far (p := ⟨gb700116, 1, none⟩) (Kd.S_far (p := ⟨gb700116, 0, none⟩) (Kd.S_types HO_5.out BK700116.out (by decide)) (fun _ hk => hk.2) (.int .i64 t700111)) (fun _ hk => hk.2) (.int .i64 t700112)) (fun _ hk => hk.2) (.int .i64 t700113)) (fun _ hk => hk.2) (.int .i64 t700114)) (fun _ hk => hk.2) (.int .i64 t700115)) (fun _ hk => hk.1.2)⟩, ⟨by (with_reducible repeat (first | apply Kd.R_alloc | apply Kd.R_drewN | apply Kd.R_drew)); exact Kd.R_mono (Kd.R_far (p := ⟨gb700116, 4, none⟩) (Kd.R_far (p := ⟨gb700116, 3, none⟩) (Kd.R_far (p := ⟨gb700116, 2, none⟩) (Kd.R_far (p := ⟨gb700116, 1, none⟩) (Kd.R_far (p := ⟨gb700116, 0, none⟩) (Kd.R_types HO700109.out BK700116.out (by decide)) (fun _ hk => hk.2) (.int .i64 t700111)) (fun _ hk => hk.2) (.int .i64 t700112)) (fun _ hk => hk.2) (.int .i64 t700113)) (fun _ hk => hk.2) (.int .i64 t700114)) (fun _ hk => hk.2) (.int .i64 t700115)) (fun _ hk => trivial)⟩, ⟨by (with_reducible repeat (first | refine blk_drewN ?_ _ | refine blk_drew ?_ | refine blk_alloc ?_ _)); refine blk_far ?_ NB700101_700116.out _; (with_reducible repeat (first | refine blk_drewN ?_ _ | refine blk_drew ?_ | refine blk_alloc ?_ _)); refine blk_far ?_ NB700101_700116.out _; (with_reducible repeat (first | refine blk_drewN ?_ _ | refine blk_drew ?_ | refine blk_alloc ?_ _)); refine blk_far ?_ NB700101_700116.out _; (with_reducible repeat (first | refine blk_drewN ?_ _ | refine blk_drew ?_ | refine blk_alloc ?_ _)); refine blk_far ?_ NB700101_700116.out _; (with_reducible repeat (first | refine blk_drewN ?_ _ | refine blk_drew ?_ | refine blk_alloc ?_ _)); refine blk_far ?_ NB700101_700116.out _; (with_reducible repeat (first | refine blk_drewN ?_ _ | refine blk_drew ?_ | refine blk_alloc ?_ _)); exact BK700101.out⟩, ⟨by (with_reducible repeat (first | refine blk_drewN ?_ _ | refine blk_drew ?_ | refine blk_alloc ?_ _)); refine blk_put (cs := #[.int .i64 t700111, .int .i64 t700112, .int .i64 t700113, .int .i64 t700114, .int .i64 0]) ?_ 4 _ rfl; (with_reducible repeat (first | refine blk_drewN ?_ _ | refine blk_drew ?_ | refine blk_alloc ?_ _)); refine blk_put (cs := #[.int .i64 t700111, .int .i64 t700112, .int .i64 t700113, .int .i64 0, .int .i64 0]) ?_ 3 _ rfl; (with_reducible repeat (first | refine blk_drewN ?_ _ | refine blk_drew ?_ | refine blk_alloc ?_ _)); refine blk_put (cs := #[.int .i64 t700111, .int .i64 t700112, .int .i64 0, .int .i64 0, .int .i64 0]) ?_ 2 _ rfl; (with_reducible repeat (first | refine blk_drewN ?_ _ | refine blk_drew ?_ | refine blk_alloc ?_ _)); refine blk_put (cs := #[.int .i64 t700111, .int .i64 0, .int .i64 0, .int .i64 0, .int .i64 0]) ?_ 1 _ rfl; (with_reducible repeat (first | refine blk_drewN ?_ _ | refine blk_drew ?_ | refine blk_alloc ?_ _)); refine blk_put (cs := #[.int .i64 0, .int .i64 0, .int .i64 0, .int .i64 0, .int .i64 0]) ?_ 0 _ rfl; (with_reducible repeat (first | refine blk_drewN ?_ _ | refine blk_drew ?_ | refine blk_alloc ?_ _)); exact BK700116.out⟩, ⟨by repeat (first | (with_reducible first | exact HB.out | apply below_alloc | apply pw_below_drewN | apply below_drew1 | refine below_set ?_ GE700101.out | refine below_set ?_ GE700116.out) | exact HB.out)⟩⟩
                    · rw [if_neg c21] at H
                      exact absurd H (by simp)
                  · rw [if_neg c20] at H
                    exact absurd H (by simp)
              · rw [if_neg c17] at H
                have c17b0 : decide (t700110 < (a0.size : Int)) = false := decide_eq_false c17
                clear c17
                (first | rw [c17b0] | (simp only [i64_w, i32_w]; rw [c17b0]) | skip)
                have H' := Aside0.mk H
                clear H
                go_wp2
                go_meet
                case rel => exact ⟨_, (false), (by first | rfl | (simp; done) | (simp [*]; done)), H', ⟨by have := HK1.out; first | omega | exact Nat.le_refl _⟩, ⟨by (with_reducible repeat (first | apply Kd.S_alloc | apply Kd.S_drewN | apply Kd.S_drew)); exact Kd.S_mono (Kd.S_far (p := ⟨gb700116, 4, none⟩) (Kd.S_far (p := ⟨gb700116, 3, none⟩) (Kd.S_far (p := ⟨gb700116, 2, none⟩) (Kd.S_far (p := ⟨gb700116, 1, none⟩) (Kd.S_far (p := ⟨gb700116, 0, none⟩) (Kd.S_types HO_5.out BK700116.out (by decide)) (fun _ hk => hk.2) (.int .i64 t700111)) (fun _ hk => hk.2) (.int .i64 t700112)) (fun _ hk => hk.2) (.int .i64 t700113)) (fun _ hk => hk.2) (.int .i64 t700114)) (fun _ hk => hk.2) (.int .i64 t700115)) (fun _ hk => hk.1.2)⟩, ⟨by (with_reducible repeat (first | apply Kd.R_alloc | apply Kd.R_drewN | apply Kd.R_drew)); exact Kd.R_mono (Kd.R_far (p := ⟨gb700116, 4, none⟩) (Kd.R_far (p := ⟨gb700116, 3, none⟩) (Kd.R_far (p := ⟨gb700116, 2, none⟩) (Kd.R_far (p := ⟨gb700116, 1, none⟩) (Kd.R_far (p := ⟨gb700116, 0, none⟩) (Kd.R_types HO700109.out BK700116.out (by decide)) (fun _ hk => hk.2) (.int .i64 t700111)) (fun _ hk => hk.2) (.int .i64 t700112)) (fun _ hk => hk.2) (.int .i64 t700113)) (fun _ hk => hk.2) (.int .i64 t700114)) (fun _ hk => hk.2) (.int .i64 t700115)) (fun _ hk => trivial)⟩, ⟨by (with_reducible repeat (first | refine blk_drewN ?_ _ | refine blk_drew ?_ | refine blk_alloc ?_ _)); refine blk_far ?_ NB700101_700116.out _; (with_reducible repeat (first | refine blk_drewN ?_ _ | refine blk_drew ?_ | refine blk_alloc ?_ _)); refine blk_far ?_ NB700101_700116.out _; (with_reducible repeat (first | refine blk_drewN ?_ _ | refine blk_drew ?_ | refine blk_alloc ?_ _)); refine blk_far ?_ NB700101_700116.out _; (with_reducible repeat (first | refine blk_drewN ?_ _ | refine blk_drew ?_ | refine blk_alloc ?_ _)); refine blk_far ?_ NB700101_700116.out _; (with_reducible repeat (first | refine blk_drewN ?_ _ | refine blk_drew ?_ | refine blk_alloc ?_ _)); refine blk_far ?_ NB700101_700116.out _; (with_reducible repeat (first | refine blk_drewN ?_ _ | refine blk_drew ?_ | refine blk_alloc ?_ _)); exact BK700101.out⟩, ⟨by (with_reducible repeat (first | refine blk_drewN ?_ _ | refine blk_drew ?_ | refine blk_alloc ?_ _)); refine blk_put (cs := #[.int .i64 t700111, .int .i64 t700112, .int .i64 t700113, .int .i64 t700114, .int .i64 0]) ?_ 4 _ rfl; (with_reducible repeat (first | refine blk_drewN ?_ _ | refine blk_drew ?_ | refine blk_alloc ?_ _)); refine blk_put (cs := #[.int .i64 t700111, .int .i64 t700112, .int .i64 t700113, .int .i64 0, .int .i64 0]) ?_ 3 _ rfl; (with_reducible repeat (first | refine blk_drewN ?_ _ | refine blk_drew ?_ | refine blk_alloc ?_ _)); refine blk_put (cs := #[.int .i64 t700111, .int .i64 t700112, .int .i64 0, .int .i64 0, .int .i64 0]) ?_ 2 _ rfl; (with_reducible repeat (first | refine blk_drewN ?_ _ | refine blk_drew ?_ | refine blk_alloc ?_ _)); refine blk_put (cs := #[.int .i64 t700111, .int .i64 0, .int .i64 0, .int .i64 0, .int .i64 0]) ?_ 1 _ rfl; (with_reducible repeat (first | refine blk_drewN ?_ _ | refine blk_drew ?_ | refine blk_alloc ?_ _)); refine blk_put (cs := #[.int .i64 0, .int .i64 0, .int .i64 0, .int .i64 0, .int .i64 0]) ?_ 0 _ rfl; (with_reducible repeat (first | refine blk_drewN ?_ _ | refine blk_drew ?_ | refine blk_alloc ?_ _)); exact BK700116.out⟩, ⟨by repeat (first | (with_reducible first | exact HB.out | apply below_alloc | apply pw_below_drewN | apply below_drew1 | refine below_set ?_ GE700101.out | refine below_set ?_ GE700116.out) | exact HB.out)⟩⟩
            case rest =>
              clear HC11
              try clear c1
              try clear c2
              try clear p2
              try clear q2
              try clear hx2
              try clear c3
              try clear c3b0
              try clear c4
              try clear c4b0
              try clear c4b1
              try clear p6
              try clear c7
              try clear c9
              try clear c10
              try clear c10b0
              try clear c10b1
              try clear c15
              try clear c17
              try clear c17b0
              try clear c18
              try clear c18b0
              try clear c18b1
              try clear c20
              try clear c20b0
              try clear c21
              try clear c21b0
              try clear p22
              try clear q22
              try clear hx22
              try clear hcz16_0
              try clear hcz16_1
              try clear hcz16_2
              try clear hcz16_3
              try clear hcz16_4
              try clear hcz8_0
              try clear hcz8_1
              try clear hcz8_2
              try clear hcz8_3
              try clear hcz8_4
              try clear hfz16_0
              try clear hfz16_1
              try clear hfz16_2
              try clear hfz16_3
              try clear hfz16_4
              try clear hfz8_0
              try clear hfz8_1
              try clear hfz8_2
              try clear hfz8_3
              try clear hfz8_4
              try clear p2
              try clear p22
              try clear q22
              obtain ⟨kq, x54_10, rfl, HA, HJ10, HO_5, HO_7, BK700101, BK700116, HB⟩ := hcut
              cases kq with
              | zero => exact absurd HA.out (by simp [larderref04_read.j1])
              | succ kj10 =>
                have H := HA.out
                clear HA
                simp only [larderref04_read.j1] at H
                by_cases c23 : x54_10 = true
                · subst c23
                  have H1 : ((larderref04_placed.f kj10 a0 3 t700110).bind fun bt700117 => (some (x5_1, (x5_1.length : Int), bt700117.1, bt700117.2.1, bt700117.2.2.1, bt700117.2.2.2.1, bt700117.2.2.2.2))) = some (r1, r2, r3, r4, r5, r6, r7) := by rw [if_pos rfl] at H; exact H
                  clear H
                  have H := H1
                  clear H1
                  replace H := Option.bind_eq_some_iff.mp H
                  obtain ⟨⟨t700117, t700118, t700119, t700120, t700121⟩, A240, H⟩ := H
                  replace H : (some (x5_1, (x5_1.length : Int), t700117, t700118, t700119, t700120, t700121)) = some (r1, r2, r3, r4, r5, r6, r7) := H
                  have A24 := Aside0.mk A240
                  clear A240
                  simp only [Option.some.injEq, Prod.mk.injEq] at H
                  obtain ⟨rfl, rfl, rfl, rfl, rfl, rfl, rfl⟩ := H
                  go_wp2_with (first | ((with_reducible refine gate_callee (f := 71) rfl ?_); refine goesL_ (some 60) rfl rfl Tryz.func71 (by kernel_rfl) rfl #[.string a0, .int .i64 3, .int .i64 t700110] rfl (by (try simp only [List.map_toArray, List.map_cons, List.map_nil]); first | done | rfl | (simp only [List.length_drop, List.length_take]; rfl)) ?_; (with_reducible refine (larderref04_placed.calls kj10 a0 3 t700110 t700117 t700118 t700119 t700120 t700121 _ A24.out).mono ?_); rintro e w25 ⟨rfl, hb⟩; refine ⟨_, rfl, ?_⟩; have n0_ := Aside0.mk (Kd.S_below (by (with_reducible repeat (first | apply Kd.S_alloc | apply Kd.S_drewN | apply Kd.S_drew)); exact HO_5.out) hb); have n1_ := Aside0.mk (Kd.R_below (by (with_reducible repeat (first | apply Kd.R_alloc | apply Kd.R_drewN | apply Kd.R_drew)); exact HO_7.out) hb); have n2_ := Aside0.mk (blk_below (g := gb700101) (o := .cells #[.int .i64 x700102000_1, .int .i64 x700102001_1, .int .i64 x700102002_1, .int .i64 x700102003_1, .int .i64 x700102004_1] 46 (0, 0)) (by (with_reducible repeat (first | refine blk_drewN ?_ _ | refine blk_drew ?_ | refine blk_alloc ?_ _)); exact BK700101.out) hb); have n3_ := Aside0.mk (blk_below (g := gb700116) (o := .cells #[.int .i64 t700111, .int .i64 t700112, .int .i64 t700113, .int .i64 t700114, .int .i64 t700115] 46 (0, 0)) (by (with_reducible repeat (first | refine blk_drewN ?_ _ | refine blk_drew ?_ | refine blk_alloc ?_ _)); exact BK700116.out) hb); have n4_ := Aside0.mk (below_step (by repeat (first | (with_reducible first | exact HB.out | apply below_alloc | apply pw_below_drewN | apply below_drew1 | refine below_set ?_ GE700101.out | refine below_set ?_ GE700116.out) | exact HB.out)) hb); clear HO_5; clear HO_7; clear BK700101; clear BK700116; clear HB; have HO_5 := n0_; have HO_7 := n1_; have BK700101 := n2_; have BK700116 := n3_; have HB := n4_; clear n0_ n1_ n2_ n3_ n4_; (try clear hb); (try clear hb2); (try clear hk); (try clear hi); have hnb26 := NB700101_700116.out; have hnc26 := NB700116_700101.out; have hcz27_0 : w25.cell? ⟨gb700101, 0, none⟩ = some (.int .i64 x700102000_1) := (blk_cell BK700101.out 0).trans rfl; have hcz27_1 : w25.cell? ⟨gb700101, 1, none⟩ = some (.int .i64 x700102001_1) := (blk_cell BK700101.out 1).trans rfl; have hcz27_2 : w25.cell? ⟨gb700101, 2, none⟩ = some (.int .i64 x700102002_1) := (blk_cell BK700101.out 2).trans rfl; have hcz27_3 : w25.cell? ⟨gb700101, 3, none⟩ = some (.int .i64 x700102003_1) := (blk_cell BK700101.out 3).trans rfl; have hcz27_4 : w25.cell? ⟨gb700101, 4, none⟩ = some (.int .i64 x700102004_1) := (blk_cell BK700101.out 4).trans rfl; have hfz27_0 := blk_frozen BK700101.out 0; have hfz27_1 := blk_frozen BK700101.out 1; have hfz27_2 := blk_frozen BK700101.out 2; have hfz27_3 := blk_frozen BK700101.out 3; have hfz27_4 := blk_frozen BK700101.out 4))
                  refine bodyPost_ret (results_list (rs := [.tmp 2, .tmp 3, .cell 4 46]) rfl (by simp) (.tmp (.tmp (.cell gb700101 46 #[.int .i64 t700117, .int .i64 t700118, .int .i64 t700119, .int .i64 t700120, .int .i64 t700121] (0, 0) _ rfl (by (with_reducible repeat (first | refine blk_drewN ?_ _ | refine blk_drew ?_ | refine blk_alloc ?_ _)); refine blk_put (cs := #[.int .i64 t700117, .int .i64 t700118, .int .i64 t700119, .int .i64 t700120, .int .i64 x700102004_1]) ?_ 4 _ rfl; (with_reducible repeat (first | refine blk_drewN ?_ _ | refine blk_drew ?_ | refine blk_alloc ?_ _)); refine blk_put (cs := #[.int .i64 t700117, .int .i64 t700118, .int .i64 t700119, .int .i64 x700102003_1, .int .i64 x700102004_1]) ?_ 3 _ rfl; (with_reducible repeat (first | refine blk_drewN ?_ _ | refine blk_drew ?_ | refine blk_alloc ?_ _)); refine blk_put (cs := #[.int .i64 t700117, .int .i64 t700118, .int .i64 x700102002_1, .int .i64 x700102003_1, .int .i64 x700102004_1]) ?_ 2 _ rfl; (with_reducible repeat (first | refine blk_drewN ?_ _ | refine blk_drew ?_ | refine blk_alloc ?_ _)); refine blk_put (cs := #[.int .i64 t700117, .int .i64 x700102001_1, .int .i64 x700102002_1, .int .i64 x700102003_1, .int .i64 x700102004_1]) ?_ 1 _ rfl; (with_reducible repeat (first | refine blk_drewN ?_ _ | refine blk_drew ?_ | refine blk_alloc ?_ _)); refine blk_put (cs := #[.int .i64 x700102000_1, .int .i64 x700102001_1, .int .i64 x700102002_1, .int .i64 x700102003_1, .int .i64 x700102004_1]) ?_ 0 _ rfl; (with_reducible repeat (first | refine blk_drewN ?_ _ | refine blk_drew ?_ | refine blk_alloc ?_ _)); exact BK700101.out) Tryz.underlying46 rfl (by kernel_rfl) .nil)))) rfl ?_
                  exact ⟨_, by first | rfl | (simp [errW_none, errW_some] <;> rfl) | (simp [*, errW_none, errW_some] <;> rfl), by (with_reducible repeat (first | apply Kd.S_alloc | apply Kd.S_drewN | apply Kd.S_drew)); exact Kd.S_mono (Kd.S_far (p := ⟨gb700101, 4, none⟩) (Kd.S_far (p := ⟨gb700101, 3, none⟩) (Kd.S_far (p := ⟨gb700101, 2, none⟩) (Kd.S_far (p := ⟨gb700101, 1, none⟩) (Kd.S_far (p := ⟨gb700101, 0, none⟩) (Kd.S_types HO_5.out BK700101.out (by decide)) (fun _ hk => hk.2) (.int .i64 t700117)) (fun _ hk => hk.2) (.int .i64 t700118)) (fun _ hk => hk.2) (.int .i64 t700119)) (fun _ hk => hk.2) (.int .i64 t700120)) (fun _ hk => hk.2) (.int .i64 t700121)) (fun _ hk => trivial), by repeat (first | (with_reducible first | exact HB.out | apply below_alloc | apply pw_below_drewN | apply below_drew1 | refine below_set ?_ GE700101.out | refine below_set ?_ GE700116.out) | exact HB.out)⟩
                · replace c23 := Bool.eq_false_iff.mpr c23
                  subst c23
                  have H1 : (if (x5_1.length : Int) > 0 then (if 0 < (x5_1.length : Int) then (larderref04_read.j2 kj10 a0 x5_1 t700107 t700110 ((t700107.length : Int) != ((rd_L2 x5_1 0).length : Int))) else (none)) else (larderref04_read.j2 kj10 a0 x5_1 t700107 t700110 false)) = some (r1, r2, r3, r4, r5, r6, r7) := by rw [if_neg (show ¬ (false = true) by decide)] at H; exact H
                  clear H
                  have H := H1
                  clear H1
                  have HC28 := Aside0.mk H
                  clear H
                  go_upto_region 11 with (fail)
                  go_cut [72] (fun v72 wc => ∃ (kq : Nat) (x72_27 : Bool), v72 = .bool x72_27 ∧ Aside0 (larderref04_read.j2 kq a0 x5_1 t700107 t700110 x72_27 = some (r1, r2, r3, r4, r5, r6, r7)) ∧ Aside0 (kq ≤ kj10) ∧ Aside0 (Kd.S (Kd.slice 9 Kd.string) 28 wc w.heap.size (fun k_ => some k_ ≠ (v700108 : Value).ownBlock) (.slice Ao12 x5_1.length co12) x5_1) ∧ Aside0 (Kd.R Kd.string 9 wc w.heap.size (fun _ => True) v700108 t700107) ∧ Aside0 (wc.heap[gb700101]? = some (.cells #[.int .i64 x700102000_1, .int .i64 x700102001_1, .int .i64 x700102002_1, .int .i64 x700102003_1, .int .i64 x700102004_1] 46 (0, 0))) ∧ Aside0 (wc.heap[gb700116]? = some (.cells #[.int .i64 t700111, .int .i64 t700112, .int .i64 t700113, .int .i64 t700114, .int .i64 t700115] 46 (0, 0))) ∧ Aside0 (Below w.heap.size w wc))
                  case first =>
                    have H := HC28.out
                    clear HC28
                    by_cases c29 : (x5_1.length : Int) > 0
                    · rw [if_pos c29] at H
                      have c29b0 : decide (0 < (x5_1.length : Int)) = true := decide_eq_true c29
                      have c29b1 : decide (0 < x5_1.length) = true := decide_eq_true (by omega)
                      clear c29
                      (first | rw [c29b0] | (simp only [i64_w, i32_w]; rw [c29b0]) | skip)
                      by_cases c30 : 0 < (x5_1.length : Int)
                      · rw [if_pos c30] at H
                        have c30b0 : decide (0 < (x5_1.length : Int)) = true := decide_eq_true c30
                        have c30b1 : decide (0 < x5_1.length) = true := decide_eq_true (by omega)
                        clear c30
                        have H' := Aside0.mk H
                        clear H
                        obtain ⟨Ao31, co31, eo31⟩ := Kd.R_slice HO_7.out
                        subst eo31
                        have p700122 : 0 ≤ (0 : Int) := (by omega)
                        have q700122 : 0 < (x5_1.length : Int) := of_decide_eq_true (by first | (with_reducible assumption) | assumption)
                        obtain ⟨ad700122, A700122_0, c700122_0, e700122, hx700122_0, hl700122_0, hi700122_0⟩ := at_L2 (Kd.S_reads' HO_5.out).2.2 0 p700122 q700122
                        cases e700122
                        obtain ⟨ce700122, hce700122, hMe700122, hcc700122⟩ := Kd.S_get HO_5.out [] 0 p700122 (by first | exact q700122 | exact of_decide_eq_true (by first | (with_reducible assumption) | assumption) | (have e_ := (Kd.S_reads' HO_5.out).1; omega))
                        obtain ⟨ve700122_0, rfl, ge700122_0⟩ := hMe700122
                        have hv700122_0 := hcc700122 0 _ rfl
                        rw [Nat.add_zero, show ((Kd.slice 9 Kd.string)).sz = 1 from rfl, Nat.mul_one] at hv700122_0
                        replace hv700122_0 := Option.some.inj (hv700122_0.symm.trans hx700122_0)
                        rw [hv700122_0] at ge700122_0
                        have HL700122_0 := Aside0.mk (show Kd.R Kd.string 9 _ _ _ _ (rd_L2 x5_1 0) from ge700122_0)
                        clear hv700122_0 ge700122_0
                        clear hcc700122 hce700122
                        have qi700122 : (0 < x5_1.length) = True := eq_true (by omega)
                        (try rw [show ((0 : Int)).toNat = 0 from rfl] at hx700122_0)
                        (try rw [Addr.add_zero'] at hx700122_0)
                        have HR700122_0 := Aside0.mk hi700122_0
                        have HC700122_0 := Aside0.mk hl700122_0
                        clear hi700122_0 hl700122_0
                        replace p700122 := eq_true p700122
                        replace q700122 := eq_true q700122
                        go_wp2
                        go_meet
                        case rel => exact ⟨_, (((t700107.length : Int) != ((rd_L2 x5_1 0).length : Int))), (by first | rfl | (simp; done) | (simp [*]; done)), H', ⟨by have := HK1.out; have := HJ10.out; first | omega | exact Nat.le_refl _⟩, ⟨by (with_reducible repeat (first | apply Kd.S_alloc | apply Kd.S_drewN | apply Kd.S_drew)); exact HO_5.out⟩, ⟨by (with_reducible repeat (first | apply Kd.R_alloc | apply Kd.R_drewN | apply Kd.R_drew)); exact HO_7.out⟩, ⟨by (with_reducible repeat (first | refine blk_drewN ?_ _ | refine blk_drew ?_ | refine blk_alloc ?_ _)); exact BK700101.out⟩, ⟨by (with_reducible repeat (first | refine blk_drewN ?_ _ | refine blk_drew ?_ | refine blk_alloc ?_ _)); exact BK700116.out⟩, ⟨by repeat (first | (with_reducible first | exact HB.out | apply below_alloc | apply pw_below_drewN | apply below_drew1 | refine below_set ?_ GE700101.out | refine below_set ?_ GE700116.out) | exact HB.out)⟩⟩
                      · rw [if_neg c30] at H
                        exact absurd H (by simp)
                    · rw [if_neg c29] at H
                      have c29b0 : decide (0 < (x5_1.length : Int)) = false := decide_eq_false c29
                      have c29b1 : decide (0 < x5_1.length) = false := decide_eq_false (by omega)
                      clear c29
                      (first | rw [c29b0] | (simp only [i64_w, i32_w]; rw [c29b0]) | skip)
                      have H' := Aside0.mk H
                      clear H
                      go_wp2
                      go_meet
                      case rel => exact ⟨_, (false), (by first | rfl | (simp; done) | (simp [*]; done)), H', ⟨by have := HK1.out; have := HJ10.out; first | omega | exact Nat.le_refl _⟩, ⟨by (with_reducible repeat (first | apply Kd.S_alloc | apply Kd.S_drewN | apply Kd.S_drew)); exact HO_5.out⟩, ⟨by (with_reducible repeat (first | apply Kd.R_alloc | apply Kd.R_drewN | apply Kd.R_drew)); exact HO_7.out⟩, ⟨by (with_reducible repeat (first | refine blk_drewN ?_ _ | refine blk_drew ?_ | refine blk_alloc ?_ _)); exact BK700101.out⟩, ⟨by (with_reducible repeat (first | refine blk_drewN ?_ _ | refine blk_drew ?_ | refine blk_alloc ?_ _)); exact BK700116.out⟩, ⟨by repeat (first | (with_reducible first | exact HB.out | apply below_alloc | apply pw_below_drewN | apply below_drew1 | refine below_set ?_ GE700101.out | refine below_set ?_ GE700116.out) | exact HB.out)⟩⟩
                  case rest =>
                    clear HC28
                    try clear c1
                    try clear c2
                    try clear p2
                    try clear q2
                    try clear hx2
                    try clear c3
                    try clear c3b0
                    try clear c4
                    try clear c4b0
                    try clear c4b1
                    try clear p6
                    try clear c7
                    try clear p7
                    try clear q7
                    try clear hx7
                    try clear qi7
                    try clear c9
                    try clear c10
                    try clear c10b0
                    try clear c10b1
                    try clear c15
                    try clear c17
                    try clear c17b0
                    try clear c18
                    try clear c18b0
                    try clear c18b1
                    try clear c20
                    try clear c20b0
                    try clear c21
                    try clear c21b0
                    try clear p22
                    try clear q22
                    try clear hx22
                    try clear c23
                    try clear c26
                    try clear c29
                    try clear c29b0
                    try clear c29b1
                    try clear c30
                    try clear c30b0
                    try clear c30b1
                    try clear hcz16_0
                    try clear hcz16_1
                    try clear hcz16_2
                    try clear hcz16_3
                    try clear hcz16_4
                    try clear hcz27_0
                    try clear hcz27_1
                    try clear hcz27_2
                    try clear hcz27_3
                    try clear hcz27_4
                    try clear hcz8_0
                    try clear hcz8_1
                    try clear hcz8_2
                    try clear hcz8_3
                    try clear hcz8_4
                    try clear hfz16_0
                    try clear hfz16_1
                    try clear hfz16_2
                    try clear hfz16_3
                    try clear hfz16_4
                    try clear hfz27_0
                    try clear hfz27_1
                    try clear hfz27_2
                    try clear hfz27_3
                    try clear hfz27_4
                    try clear hfz8_0
                    try clear hfz8_1
                    try clear hfz8_2
                    try clear hfz8_3
                    try clear hfz8_4
                    try clear hx700122_0
                    try clear p2
                    try clear p22
                    try clear p6
                    try clear p700122
                    try clear q2
                    try clear q22
                    try clear q700122
                    obtain ⟨kq, x72_27, rfl, HA, HJ27, HO_5, HO_7, BK700101, BK700116, HB⟩ := hcut
                    cases kq with
                    | zero => exact absurd HA.out (by simp [larderref04_read.j2])
                    | succ kj27 =>
                      have H := HA.out
                      clear HA
                      simp only [larderref04_read.j2] at H
                      by_cases c32 : x72_27 = true
                      · subst c32
                        have H1 : ((larderref04_placed.f kj27 a0 8 t700110).bind fun bt700123 => (some (x5_1, (x5_1.length : Int), bt700123.1, bt700123.2.1, bt700123.2.2.1, bt700123.2.2.2.1, bt700123.2.2.2.2))) = some (r1, r2, r3, r4, r5, r6, r7) := by rw [if_pos rfl] at H; exact H
                        clear H
                        have H := H1
                        clear H1
                        replace H := Option.bind_eq_some_iff.mp H
                        obtain ⟨⟨t700123, t700124, t700125, t700126, t700127⟩, A330, H⟩ := H
                        replace H : (some (x5_1, (x5_1.length : Int), t700123, t700124, t700125, t700126, t700127)) = some (r1, r2, r3, r4, r5, r6, r7) := H
                        have A33 := Aside0.mk A330
                        clear A330
                        simp only [Option.some.injEq, Prod.mk.injEq] at H
                        obtain ⟨rfl, rfl, rfl, rfl, rfl, rfl, rfl⟩ := H
                        go_wp2_with (first | ((with_reducible refine gate_callee (f := 71) rfl ?_); refine goesL_ (some 78) rfl rfl Tryz.func71 (by kernel_rfl) rfl #[.string a0, .int .i64 8, .int .i64 t700110] rfl (by (try simp only [List.map_toArray, List.map_cons, List.map_nil]); first | done | rfl | (simp only [List.length_drop, List.length_take]; rfl)) ?_; (with_reducible refine (larderref04_placed.calls kj27 a0 8 t700110 t700123 t700124 t700125 t700126 t700127 _ A33.out).mono ?_); rintro e w34 ⟨rfl, hb⟩; refine ⟨_, rfl, ?_⟩; have n0_ := Aside0.mk (Kd.S_below (by (with_reducible repeat (first | apply Kd.S_alloc | apply Kd.S_drewN | apply Kd.S_drew)); exact HO_5.out) hb); have n1_ := Aside0.mk (Kd.R_below (by (with_reducible repeat (first | apply Kd.R_alloc | apply Kd.R_drewN | apply Kd.R_drew)); exact HO_7.out) hb); have n2_ := Aside0.mk (blk_below (g := gb700101) (o := .cells #[.int .i64 x700102000_1, .int .i64 x700102001_1, .int .i64 x700102002_1, .int .i64 x700102003_1, .int .i64 x700102004_1] 46 (0, 0)) (by (with_reducible repeat (first | refine blk_drewN ?_ _ | refine blk_drew ?_ | refine blk_alloc ?_ _)); exact BK700101.out) hb); have n3_ := Aside0.mk (blk_below (g := gb700116) (o := .cells #[.int .i64 t700111, .int .i64 t700112, .int .i64 t700113, .int .i64 t700114, .int .i64 t700115] 46 (0, 0)) (by (with_reducible repeat (first | refine blk_drewN ?_ _ | refine blk_drew ?_ | refine blk_alloc ?_ _)); exact BK700116.out) hb); have n4_ := Aside0.mk (below_step (by repeat (first | (with_reducible first | exact HB.out | apply below_alloc | apply pw_below_drewN | apply below_drew1 | refine below_set ?_ GE700101.out | refine below_set ?_ GE700116.out) | exact HB.out)) hb); clear HO_5; clear HO_7; clear BK700101; clear BK700116; clear HB; have HO_5 := n0_; have HO_7 := n1_; have BK700101 := n2_; have BK700116 := n3_; have HB := n4_; clear n0_ n1_ n2_ n3_ n4_; (try clear hb); (try clear hb2); (try clear hk); (try clear hi); have hnb35 := NB700101_700116.out; have hnc35 := NB700116_700101.out; have hcz36_0 : w34.cell? ⟨gb700101, 0, none⟩ = some (.int .i64 x700102000_1) := (blk_cell BK700101.out 0).trans rfl; have hcz36_1 : w34.cell? ⟨gb700101, 1, none⟩ = some (.int .i64 x700102001_1) := (blk_cell BK700101.out 1).trans rfl; have hcz36_2 : w34.cell? ⟨gb700101, 2, none⟩ = some (.int .i64 x700102002_1) := (blk_cell BK700101.out 2).trans rfl; have hcz36_3 : w34.cell? ⟨gb700101, 3, none⟩ = some (.int .i64 x700102003_1) := (blk_cell BK700101.out 3).trans rfl; have hcz36_4 : w34.cell? ⟨gb700101, 4, none⟩ = some (.int .i64 x700102004_1) := (blk_cell BK700101.out 4).trans rfl; have hfz36_0 := blk_frozen BK700101.out 0; have hfz36_1 := blk_frozen BK700101.out 1; have hfz36_2 := blk_frozen BK700101.out 2; have hfz36_3 := blk_frozen BK700101.out 3; have hfz36_4 := blk_frozen BK700101.out 4))
                        refine bodyPost_ret (results_list (rs := [.tmp 2, .tmp 3, .cell 4 46]) rfl (by simp) (.tmp (.tmp (.cell gb700101 46 #[.int .i64 t700123, .int .i64 t700124, .int .i64 t700125, .int .i64 t700126, .int .i64 t700127] (0, 0) _ rfl (by (with_reducible repeat (first | refine blk_drewN ?_ _ | refine blk_drew ?_ | refine blk_alloc ?_ _)); refine blk_put (cs := #[.int .i64 t700123, .int .i64 t700124, .int .i64 t700125, .int .i64 t700126, .int .i64 x700102004_1]) ?_ 4 _ rfl; (with_reducible repeat (first | refine blk_drewN ?_ _ | refine blk_drew ?_ | refine blk_alloc ?_ _)); refine blk_put (cs := #[.int .i64 t700123, .int .i64 t700124, .int .i64 t700125, .int .i64 x700102003_1, .int .i64 x700102004_1]) ?_ 3 _ rfl; (with_reducible repeat (first | refine blk_drewN ?_ _ | refine blk_drew ?_ | refine blk_alloc ?_ _)); refine blk_put (cs := #[.int .i64 t700123, .int .i64 t700124, .int .i64 x700102002_1, .int .i64 x700102003_1, .int .i64 x700102004_1]) ?_ 2 _ rfl; (with_reducible repeat (first | refine blk_drewN ?_ _ | refine blk_drew ?_ | refine blk_alloc ?_ _)); refine blk_put (cs := #[.int .i64 t700123, .int .i64 x700102001_1, .int .i64 x700102002_1, .int .i64 x700102003_1, .int .i64 x700102004_1]) ?_ 1 _ rfl; (with_reducible repeat (first | refine blk_drewN ?_ _ | refine blk_drew ?_ | refine blk_alloc ?_ _)); refine blk_put (cs := #[.int .i64 x700102000_1, .int .i64 x700102001_1, .int .i64 x700102002_1, .int .i64 x700102003_1, .int .i64 x700102004_1]) ?_ 0 _ rfl; (with_reducible repeat (first | refine blk_drewN ?_ _ | refine blk_drew ?_ | refine blk_alloc ?_ _)); exact BK700101.out) Tryz.underlying46 rfl (by kernel_rfl) .nil)))) rfl ?_
                        exact ⟨_, by first | rfl | (simp [errW_none, errW_some] <;> rfl) | (simp [*, errW_none, errW_some] <;> rfl), by (with_reducible repeat (first | apply Kd.S_alloc | apply Kd.S_drewN | apply Kd.S_drew)); exact Kd.S_mono (Kd.S_far (p := ⟨gb700101, 4, none⟩) (Kd.S_far (p := ⟨gb700101, 3, none⟩) (Kd.S_far (p := ⟨gb700101, 2, none⟩) (Kd.S_far (p := ⟨gb700101, 1, none⟩) (Kd.S_far (p := ⟨gb700101, 0, none⟩) (Kd.S_types HO_5.out BK700101.out (by decide)) (fun _ hk => hk.2) (.int .i64 t700123)) (fun _ hk => hk.2) (.int .i64 t700124)) (fun _ hk => hk.2) (.int .i64 t700125)) (fun _ hk => hk.2) (.int .i64 t700126)) (fun _ hk => hk.2) (.int .i64 t700127)) (fun _ hk => trivial), by repeat (first | (with_reducible first | exact HB.out | apply below_alloc | apply pw_below_drewN | apply below_drew1 | refine below_set ?_ GE700101.out | refine below_set ?_ GE700116.out) | exact HB.out)⟩
                      · replace c32 := Bool.eq_false_iff.mpr c32
                        subst c32
                        have H1 : (if x5_1.length < 5864062014805 then ((some (x5_1 ++ [t700107] : List (List ByteArray))).bind fun y700128 => (if t700110 = (a0.size : Int) then (some (y700128, wrap64 ((y700128.length : Int) - 1), 0, 0, 0, 0, 0)) else (larderref04_read.l0 kj27 a0 y700128 (wrap64 (t700110 + 2))))) else (none)) = some (r1, r2, r3, r4, r5, r6, r7) := by rw [if_neg (show ¬ (false = true) by decide)] at H; exact H
                        clear H
                        have H := H1
                        clear H1
                        by_cases c37 : x5_1.length < 5864062014805
                        · rw [if_pos c37] at H
                          have LMc37 := Aside0.mk c37
                          clear c37
                          obtain ⟨y700128, hy700128⟩ : ∃ y_ : List (List ByteArray), y_ = (x5_1 ++ [t700107]) := ⟨_, rfl⟩
                          replace H : (if t700110 = (a0.size : Int) then (some (y700128, wrap64 ((y700128.length : Int) - 1), 0, 0, 0, 0, 0)) else (larderref04_read.l0 kj27 a0 y700128 (wrap64 (t700110 + 2)))) = some (r1, r2, r3, r4, r5, r6, r7) := by first | (rw [hy700128]; with_reducible exact H) | (have H2_ := (Option.bind_some _ _).symm.trans H; rw [hy700128]; with_reducible exact H2_) | (have H2_ := (Option.bind_some _ _).symm.trans H; with_reducible exact H2_) | with_reducible exact H | (rw [hy700128]; exact H) | exact H
                          have Ny700128 := Aside0.mk hy700128
                          clear hy700128
                          by_cases c38 : t700110 = (a0.size : Int)
                          · rw [if_pos c38] at H
                            have c38b0 : (t700110 == (a0.size : Int)) = true := beq_iff_eq.mpr c38
                            have c38b1 : (t700110 != (a0.size : Int)) = false := bne_eq_false_iff_eq.mpr c38
                            clear c38
                            simp only [Option.some.injEq, Prod.mk.injEq] at H
                            obtain ⟨rfl, rfl, rfl, rfl, rfl, rfl, rfl⟩ := H
                            obtain ⟨Ao40, co40, eo40⟩ := Kd.R_slice HO_7.out
                            subst eo40
                            go_wp2_with (first | ((with_reducible refine gate_builtin (b := .append) (xs := #[.tmp 79, .tmp 81]) rfl ?_); at_builtin; refine Kd.S_append (Kd.slice 9 Kd.string) (w0 := w) w.heap.size rfl (.tmp 79) (.tmp 81) 30 28 (.slice none 0 0) 24 rfl Tryz.underlying30 info28 rfl (by decide) (by omega) (.slice Ao12 x5_1.length co12) x5_1 t700107 [.slice Ao40 t700107.length co40] (fun _ => True) (fun k_ => some k_ = (.slice Ao40 t700107.length co40 : Value).ownBlock) rfl rfl ?aP (fun k_ hk_ => ((Kd.R_mono (ok' := fun k_ => ((fun _ => True)) k_ ∧ some k_ ≠ (.slice Ao12 x5_1.length co12 : Value).ownBlock) (Kd.R_apart' (HO_7.out) (Kd.S_typed HO_5.out) (by decide)) (fun k_ hk => ⟨trivial, hk.2⟩))).1 k_ hk_.symm) ?aF ?aO ?aB ?aS ?aL ?_; (case aP => exact Kd.M_row (Kd.R_mono (Kd.R_tight rfl (Kd.R_mono (ok' := fun k_ => ((fun _ => True)) k_ ∧ some k_ ≠ (.slice Ao12 x5_1.length co12 : Value).ownBlock) (Kd.R_apart' (HO_7.out) (Kd.S_typed HO_5.out) (by decide)) (fun k_ hk => ⟨trivial, hk.2⟩))) (fun _ h_ => h_))); (case aB => exact (by repeat (first | (with_reducible first | exact HB.out | apply below_alloc | apply pw_below_drewN | apply below_drew1 | refine below_set ?_ GE700101.out | refine below_set ?_ GE700116.out) | exact HB.out))); (case aF => exact (fun _ _ => trivial)); (case aO => exact (by (with_reducible repeat (first | apply Kd.S_alloc | apply Kd.S_drewN | apply Kd.S_drew)); exact Kd.S_mono HO_5.out (fun k_ hk => ⟨trivial, fun e_ => hk e_⟩))); (case aS => exact (below_size (by repeat (first | (with_reducible first | exact HB.out | apply below_alloc | apply pw_below_drewN | apply below_drew1 | refine below_set ?_ GE700101.out | refine below_set ?_ GE700116.out) | exact HB.out)))); (case aL => have := LMc37.out; omega); intro v700129 w39 ho hb hg hat; rw [← Ny700128.out] at ho; have n0_ := Aside0.mk (blk_grown (g := gb700101) (o := .cells #[.int .i64 x700102000_1, .int .i64 x700102001_1, .int .i64 x700102002_1, .int .i64 x700102003_1, .int .i64 x700102004_1] 46 (0, 0)) (by (with_reducible repeat (first | refine blk_drewN ?_ _ | refine blk_drew ?_ | refine blk_alloc ?_ _)); exact BK700101.out) hg (Kd.S_ne HO_5.out BK700101.out (by decide))); have n1_ := Aside0.mk (blk_grown (g := gb700116) (o := .cells #[.int .i64 t700111, .int .i64 t700112, .int .i64 t700113, .int .i64 t700114, .int .i64 t700115] 46 (0, 0)) (by (with_reducible repeat (first | refine blk_drewN ?_ _ | refine blk_drew ?_ | refine blk_alloc ?_ _)); exact BK700116.out) hg (Kd.S_ne HO_5.out BK700116.out (by decide))); have n2_ := Aside0.mk (hb); have n3_ := Aside0.mk (ho); clear BK700101; clear BK700116; clear HB; clear HO_5; clear HO_7; have BK700101 := n0_; have BK700116 := n1_; have HB := n2_; have HO700130 := n3_; clear n0_ n1_ n2_ n3_; clear ho hb hg hat; obtain ⟨Ao41, co41, eo41⟩ := Kd.S_slice HO700130.out; subst eo41; have hnb42 := NB700101_700116.out; have hnc42 := NB700116_700101.out; have hcz43_0 : w39.cell? ⟨gb700101, 0, none⟩ = some (.int .i64 x700102000_1) := (blk_cell BK700101.out 0).trans rfl; have hcz43_1 : w39.cell? ⟨gb700101, 1, none⟩ = some (.int .i64 x700102001_1) := (blk_cell BK700101.out 1).trans rfl; have hcz43_2 : w39.cell? ⟨gb700101, 2, none⟩ = some (.int .i64 x700102002_1) := (blk_cell BK700101.out 2).trans rfl; have hcz43_3 : w39.cell? ⟨gb700101, 3, none⟩ = some (.int .i64 x700102003_1) := (blk_cell BK700101.out 3).trans rfl; have hcz43_4 : w39.cell? ⟨gb700101, 4, none⟩ = some (.int .i64 x700102004_1) := (blk_cell BK700101.out 4).trans rfl; have hfz43_0 := blk_frozen BK700101.out 0; have hfz43_1 := blk_frozen BK700101.out 1; have hfz43_2 := blk_frozen BK700101.out 2; have hfz43_3 := blk_frozen BK700101.out 3; have hfz43_4 := blk_frozen BK700101.out 4))
                            refine bodyPost_ret (results_list (rs := [.tmp 2, .tmp 3, .cell 4 46]) rfl (by simp) (.tmp (.tmp (.cell gb700101 46 #[.int .i64 0, .int .i64 0, .int .i64 0, .int .i64 0, .int .i64 0] (0, 0) _ rfl (by (with_reducible repeat (first | refine blk_drewN ?_ _ | refine blk_drew ?_ | refine blk_alloc ?_ _)); refine blk_put (cs := #[.int .i64 0, .int .i64 0, .int .i64 0, .int .i64 0, .int .i64 x700102004_1]) ?_ 4 _ rfl; (with_reducible repeat (first | refine blk_drewN ?_ _ | refine blk_drew ?_ | refine blk_alloc ?_ _)); refine blk_put (cs := #[.int .i64 0, .int .i64 0, .int .i64 0, .int .i64 x700102003_1, .int .i64 x700102004_1]) ?_ 3 _ rfl; (with_reducible repeat (first | refine blk_drewN ?_ _ | refine blk_drew ?_ | refine blk_alloc ?_ _)); refine blk_put (cs := #[.int .i64 0, .int .i64 0, .int .i64 x700102002_1, .int .i64 x700102003_1, .int .i64 x700102004_1]) ?_ 2 _ rfl; (with_reducible repeat (first | refine blk_drewN ?_ _ | refine blk_drew ?_ | refine blk_alloc ?_ _)); refine blk_put (cs := #[.int .i64 0, .int .i64 x700102001_1, .int .i64 x700102002_1, .int .i64 x700102003_1, .int .i64 x700102004_1]) ?_ 1 _ rfl; (with_reducible repeat (first | refine blk_drewN ?_ _ | refine blk_drew ?_ | refine blk_alloc ?_ _)); refine blk_put (cs := #[.int .i64 x700102000_1, .int .i64 x700102001_1, .int .i64 x700102002_1, .int .i64 x700102003_1, .int .i64 x700102004_1]) ?_ 0 _ rfl; (with_reducible repeat (first | refine blk_drewN ?_ _ | refine blk_drew ?_ | refine blk_alloc ?_ _)); exact BK700101.out) Tryz.underlying46 rfl (by kernel_rfl) .nil)))) rfl ?_
                            exact ⟨_, by first | rfl | (simp [errW_none, errW_some] <;> rfl) | (simp [*, errW_none, errW_some] <;> rfl), by (with_reducible repeat (first | apply Kd.S_alloc | apply Kd.S_drewN | apply Kd.S_drew)); exact Kd.S_mono (Kd.S_far (p := ⟨gb700101, 4, none⟩) (Kd.S_far (p := ⟨gb700101, 3, none⟩) (Kd.S_far (p := ⟨gb700101, 2, none⟩) (Kd.S_far (p := ⟨gb700101, 1, none⟩) (Kd.S_far (p := ⟨gb700101, 0, none⟩) (Kd.S_types HO700130.out BK700101.out (by decide)) (fun _ hk => hk.2) (.int .i64 0)) (fun _ hk => hk.2) (.int .i64 0)) (fun _ hk => hk.2) (.int .i64 0)) (fun _ hk => hk.2) (.int .i64 0)) (fun _ hk => hk.2) (.int .i64 0)) (fun _ hk => trivial), by repeat (first | (with_reducible first | exact HB.out | apply below_alloc | apply pw_below_drewN | apply below_drew1 | refine below_set ?_ GE700101.out | refine below_set ?_ GE700116.out) | exact HB.out)⟩
                          · rw [if_neg c38] at H
                            have c38b0 : (t700110 == (a0.size : Int)) = false := beq_eq_false_iff_ne.mpr c38
                            have c38b1 : (t700110 != (a0.size : Int)) = true := bne_iff_ne.mpr c38
                            have H' := Aside0.mk H
                            clear H
                            obtain ⟨Ao45, co45, eo45⟩ := Kd.R_slice HO_7.out
                            subst eo45
                            go_wp2_with (first | ((with_reducible refine gate_builtin (b := .append) (xs := #[.tmp 79, .tmp 81]) rfl ?_); at_builtin; refine Kd.S_append (Kd.slice 9 Kd.string) (w0 := w) w.heap.size rfl (.tmp 79) (.tmp 81) 30 28 (.slice none 0 0) 24 rfl Tryz.underlying30 info28 rfl (by decide) (by omega) (.slice Ao12 x5_1.length co12) x5_1 t700107 [.slice Ao45 t700107.length co45] (fun _ => True) (fun k_ => some k_ = (.slice Ao45 t700107.length co45 : Value).ownBlock) rfl rfl ?aP (fun k_ hk_ => ((Kd.R_mono (ok' := fun k_ => ((fun _ => True)) k_ ∧ some k_ ≠ (.slice Ao12 x5_1.length co12 : Value).ownBlock) (Kd.R_apart' (HO_7.out) (Kd.S_typed HO_5.out) (by decide)) (fun k_ hk => ⟨trivial, hk.2⟩))).1 k_ hk_.symm) ?aF ?aO ?aB ?aS ?aL ?_; (case aP => exact Kd.M_row (Kd.R_mono (Kd.R_tight rfl (Kd.R_mono (ok' := fun k_ => ((fun _ => True)) k_ ∧ some k_ ≠ (.slice Ao12 x5_1.length co12 : Value).ownBlock) (Kd.R_apart' (HO_7.out) (Kd.S_typed HO_5.out) (by decide)) (fun k_ hk => ⟨trivial, hk.2⟩))) (fun _ h_ => h_))); (case aB => exact (by repeat (first | (with_reducible first | exact HB.out | apply below_alloc | apply pw_below_drewN | apply below_drew1 | refine below_set ?_ GE700101.out | refine below_set ?_ GE700116.out) | exact HB.out))); (case aF => exact (fun _ _ => trivial)); (case aO => exact (by (with_reducible repeat (first | apply Kd.S_alloc | apply Kd.S_drewN | apply Kd.S_drew)); exact Kd.S_mono HO_5.out (fun k_ hk => ⟨trivial, fun e_ => hk e_⟩))); (case aS => exact (below_size (by repeat (first | (with_reducible first | exact HB.out | apply below_alloc | apply pw_below_drewN | apply below_drew1 | refine below_set ?_ GE700101.out | refine below_set ?_ GE700116.out) | exact HB.out)))); (case aL => have := LMc37.out; omega); intro v700129 w44 ho hb hg hat; rw [← Ny700128.out] at ho; have n0_ := Aside0.mk (blk_grown (g := gb700101) (o := .cells #[.int .i64 x700102000_1, .int .i64 x700102001_1, .int .i64 x700102002_1, .int .i64 x700102003_1, .int .i64 x700102004_1] 46 (0, 0)) (by (with_reducible repeat (first | refine blk_drewN ?_ _ | refine blk_drew ?_ | refine blk_alloc ?_ _)); exact BK700101.out) hg (Kd.S_ne HO_5.out BK700101.out (by decide))); have n1_ := Aside0.mk (blk_grown (g := gb700116) (o := .cells #[.int .i64 t700111, .int .i64 t700112, .int .i64 t700113, .int .i64 t700114, .int .i64 t700115] 46 (0, 0)) (by (with_reducible repeat (first | refine blk_drewN ?_ _ | refine blk_drew ?_ | refine blk_alloc ?_ _)); exact BK700116.out) hg (Kd.S_ne HO_5.out BK700116.out (by decide))); have n2_ := Aside0.mk (hb); have n3_ := Aside0.mk (ho); clear BK700101; clear BK700116; clear HB; clear HO_5; clear HO_7; have BK700101 := n0_; have BK700116 := n1_; have HB := n2_; have HO700130 := n3_; clear n0_ n1_ n2_ n3_; clear ho hb hg hat))
                            go_roundg kj27
                            case measure => have := HK1.out; have := HJ10.out; have := HJ27.out; omega
                            case rel => exact ⟨(y700128), (wrap64 (t700110 + 2)), (x700102000_1), (x700102001_1), (x700102002_1), (x700102003_1), (x700102004_1), (by first | rfl | (simp; done) | (simp [*]; done)), H', ⟨by have := HK1.out; have := HJ10.out; have := HJ27.out; omega⟩, ⟨by (with_reducible repeat (first | apply Kd.S_alloc | apply Kd.S_drewN | apply Kd.S_drew)); exact HO700130.out⟩, ⟨by (with_reducible repeat (first | refine blk_drewN ?_ _ | refine blk_drew ?_ | refine blk_alloc ?_ _)); exact BK700101.out⟩, ⟨by repeat (first | (with_reducible first | exact HB.out | apply below_alloc | apply pw_below_drewN | apply below_drew1 | refine below_set ?_ GE700101.out | refine below_set ?_ GE700116.out) | exact HB.out)⟩⟩
                        · rw [if_neg c37] at H
                          exact absurd H (by simp)
          · rw [if_neg c10] at H
            have c10b0 : (t700111 == 0) = false := beq_eq_false_iff_ne.mpr c10
            have c10b1 : (t700111 != 0) = true := bne_iff_ne.mpr c10
            simp only [Option.some.injEq, Prod.mk.injEq] at H
            obtain ⟨rfl, rfl, rfl, rfl, rfl, rfl, rfl⟩ := H
            obtain ⟨Ao46, co46, eo46⟩ := Kd.S_slice HO_5.out
            subst eo46
            try go_wp2_with (first | ((with_reducible refine gate_callee (f := 90) rfl ?_); refine goesL_ (some 26) rfl rfl Tryz.func90 (by kernel_rfl) rfl #[.string a0, .int .i64 x6_1] rfl (by (try simp only [List.map_toArray, List.map_cons, List.map_nil]); first | done | rfl | (simp only [List.length_drop, List.length_take]; rfl)) ?_; (with_reducible refine (larderref04_row.calls k1 a0 x6_1 t700107 t700110 t700111 t700112 t700113 t700114 t700115 _ A9.out).mono ?_); rintro e w47 ⟨v700108, rfl, ho0, hb⟩; refine ⟨_, rfl, ?_⟩; have n0_ := Aside0.mk (Kd.S_elder' (by (with_reducible repeat (first | apply Kd.S_alloc | apply Kd.S_drewN | apply Kd.S_drew)); exact HO_5.out) (Kd.R_base ho0) hb); have n1_ := Aside0.mk (Kd.R_lower ho0 (below_size (by repeat (first | (with_reducible first | exact HB.out | apply below_alloc | apply pw_below_drewN | apply below_drew1 | refine below_set ?_ GE700101.out) | exact HB.out)))); have n2_ := Aside0.mk (blk_below (g := gb700101) (o := .cells #[.int .i64 x700102000_1, .int .i64 x700102001_1, .int .i64 x700102002_1, .int .i64 x700102003_1, .int .i64 x700102004_1] 46 (0, 0)) (by (with_reducible repeat (first | refine blk_drewN ?_ _ | refine blk_drew ?_ | refine blk_alloc ?_ _)); exact BK700101.out) hb); have n3_ := Aside0.mk (below_step (by repeat (first | (with_reducible first | exact HB.out | apply below_alloc | apply pw_below_drewN | apply below_drew1 | refine below_set ?_ GE700101.out) | exact HB.out)) hb); clear HO_5; clear BK700101; clear HB; have HO_5 := n0_; have HO700109 := n1_; have BK700101 := n2_; have HB := n3_; clear n0_ n1_ n2_ n3_; (try clear hb); (try clear hb2); (try clear hk); (try clear hi); (try clear ho0)) | ((with_reducible refine gate_dst (N := 9) rfl ?_); refine box_event ?hg (N := 9) ?hd (cs := #[.int .i64 0, .int .i64 0, .int .i64 0, .int .i64 0, .int .i64 0]) (t := 46) ?hr ?_; (case hd => rfl); (case hg => rfl); (case hr => first | (go_simp; done) | (go_simp; rfl)); intro gb700116 hg w48 hbox hb; have n0_ := Aside0.mk (Kd.S_below (by (with_reducible repeat (first | apply Kd.S_alloc | apply Kd.S_drewN | apply Kd.S_drew)); exact HO_5.out) hb); have n1_ := Aside0.mk (Kd.R_below (by (with_reducible repeat (first | apply Kd.R_alloc | apply Kd.R_drewN | apply Kd.R_drew)); exact HO700109.out) hb); have n2_ := Aside0.mk (blk_below (g := gb700101) (o := .cells #[.int .i64 x700102000_1, .int .i64 x700102001_1, .int .i64 x700102002_1, .int .i64 x700102003_1, .int .i64 x700102004_1] 46 (0, 0)) (by (with_reducible repeat (first | refine blk_drewN ?_ _ | refine blk_drew ?_ | refine blk_alloc ?_ _)); exact BK700101.out) hb); have n3_ := Aside0.mk (below_step (by repeat (first | (with_reducible first | exact HB.out | apply below_alloc | apply pw_below_drewN | apply below_drew1 | refine below_set ?_ GE700101.out) | exact HB.out)) hb); have n4_ := Aside0.mk (hbox); have n5_ := Aside0.mk ((by rw [hg]; exact (below_size (by repeat (first | (with_reducible first | exact HB.out | apply below_alloc | apply pw_below_drewN | apply below_drew1 | refine below_set ?_ GE700101.out) | exact HB.out))) : w.heap.size ≤ gb700116)); have n6_ := Aside0.mk ((by rw [hg]; exact (below_size (by repeat (first | (with_reducible first | exact HB.out | apply below_alloc | apply pw_below_drewN | apply below_drew1 | refine below_set ?_ GE700101.out) | exact HB.out))) : w.heap.size ≤ gb700116)); have n7_ := Aside0.mk ((by rw [hg]; exact Nat.ne_of_lt (blk_lt (g := gb700101) (o := .cells #[.int .i64 x700102000_1, .int .i64 x700102001_1, .int .i64 x700102002_1, .int .i64 x700102003_1, .int .i64 x700102004_1] 46 (0, 0)) (by (with_reducible repeat (first | refine blk_drewN ?_ _ | refine blk_drew ?_ | refine blk_alloc ?_ _)); exact BK700101.out)) : gb700101 ≠ gb700116)); have n8_ := Aside0.mk ((by rw [hg]; exact Nat.ne_of_gt (blk_lt (g := gb700101) (o := .cells #[.int .i64 x700102000_1, .int .i64 x700102001_1, .int .i64 x700102002_1, .int .i64 x700102003_1, .int .i64 x700102004_1] 46 (0, 0)) (by (with_reducible repeat (first | refine blk_drewN ?_ _ | refine blk_drew ?_ | refine blk_alloc ?_ _)); exact BK700101.out)) : gb700116 ≠ gb700101)); clear HO_5; clear HO700109; clear BK700101; clear HB; have HO_5 := n0_; have HO700109 := n1_; have BK700101 := n2_; have HB := n3_; have BK700116 := n4_; have GW700116 := n5_; have GE700116 := n6_; have NB700101_700116 := n7_; have NB700116_700101 := n8_; clear n0_ n1_ n2_ n3_ n4_ n5_ n6_ n7_ n8_; clear hb hbox hg; have hnb49 := NB700116_700101.out; have hnc49 := NB700101_700116.out; have hcz50_0 : w48.cell? ⟨gb700116, 0, none⟩ = some (.int .i64 0) := (blk_cell BK700116.out 0).trans rfl; have hcz50_1 : w48.cell? ⟨gb700116, 1, none⟩ = some (.int .i64 0) := (blk_cell BK700116.out 1).trans rfl; have hcz50_2 : w48.cell? ⟨gb700116, 2, none⟩ = some (.int .i64 0) := (blk_cell BK700116.out 2).trans rfl; have hcz50_3 : w48.cell? ⟨gb700116, 3, none⟩ = some (.int .i64 0) := (blk_cell BK700116.out 3).trans rfl; have hcz50_4 : w48.cell? ⟨gb700116, 4, none⟩ = some (.int .i64 0) := (blk_cell BK700116.out 4).trans rfl; have hfz50_0 := blk_frozen BK700116.out 0; have hfz50_1 := blk_frozen BK700116.out 1; have hfz50_2 := blk_frozen BK700116.out 2; have hfz50_3 := blk_frozen BK700116.out 3; have hfz50_4 := blk_frozen BK700116.out 4))
            have n0_ : Aside0 (Kd.S (Kd.slice 9 Kd.string) 28 (((((w48.setCell ⟨gb700116, 0, none⟩ (.int .i64 t700111)).setCell ⟨gb700116, 1, none⟩ (.int .i64 t700112)).setCell ⟨gb700116, 2, none⟩ (.int .i64 t700113)).setCell ⟨gb700116, 3, none⟩ (.int .i64 t700114)).setCell ⟨gb700116, 4, none⟩ (.int .i64 t700115)) w.heap.size (fun k_ => some k_ ≠ (v700108 : Value).ownBlock) (.slice Ao46 x5_1.length co46) x5_1) := ⟨by (with_reducible repeat (first | apply Kd.S_alloc | apply Kd.S_drewN | apply Kd.S_drew)); exact Kd.S_mono (Kd.S_far (p := ⟨gb700116, 4, none⟩) (Kd.S_far (p := ⟨gb700116, 3, none⟩) (Kd.S_far (p := ⟨gb700116, 2, none⟩) (Kd.S_far (p := ⟨gb700116, 1, none⟩) (Kd.S_far (p := ⟨gb700116, 0, none⟩) (Kd.S_types HO_5.out BK700116.out (by decide)) (fun _ hk => hk.2) (.int .i64 t700111)) (fun _ hk => hk.2) (.int .i64 t700112)) (fun _ hk => hk.2) (.int .i64 t700113)) (fun _ hk => hk.2) (.int .i64 t700114)) (fun _ hk => hk.2) (.int .i64 t700115)) (fun _ hk => hk.1.2)⟩
            have n1_ : Aside0 (Kd.R Kd.string 9 (((((w48.setCell ⟨gb700116, 0, none⟩ (.int .i64 t700111)).setCell ⟨gb700116, 1, none⟩ (.int .i64 t700112)).setCell ⟨gb700116, 2, none⟩ (.int .i64 t700113)).setCell ⟨gb700116, 3, none⟩ (.int .i64 t700114)).setCell ⟨gb700116, 4, none⟩ (.int .i64 t700115)) w.heap.size (fun _ => True) v700108 t700107) := ⟨by (with_reducible repeat (first | apply Kd.R_alloc | apply Kd.R_drewN | apply Kd.R_drew)); exact Kd.R_mono (Kd.R_far (p := ⟨gb700116, 4, none⟩) (Kd.R_far (p := ⟨gb700116, 3, none⟩) (Kd.R_far (p := ⟨gb700116, 2, none⟩) (Kd.R_far (p := ⟨gb700116, 1, none⟩) (Kd.R_far (p := ⟨gb700116, 0, none⟩) (Kd.R_types HO700109.out BK700116.out (by decide)) (fun _ hk => hk.2) (.int .i64 t700111)) (fun _ hk => hk.2) (.int .i64 t700112)) (fun _ hk => hk.2) (.int .i64 t700113)) (fun _ hk => hk.2) (.int .i64 t700114)) (fun _ hk => hk.2) (.int .i64 t700115)) (fun _ hk => trivial)⟩
            have n2_ : Aside0 ((((((w48.setCell ⟨gb700116, 0, none⟩ (.int .i64 t700111)).setCell ⟨gb700116, 1, none⟩ (.int .i64 t700112)).setCell ⟨gb700116, 2, none⟩ (.int .i64 t700113)).setCell ⟨gb700116, 3, none⟩ (.int .i64 t700114)).setCell ⟨gb700116, 4, none⟩ (.int .i64 t700115)).heap[gb700101]? = some (.cells #[.int .i64 x700102000_1, .int .i64 x700102001_1, .int .i64 x700102002_1, .int .i64 x700102003_1, .int .i64 x700102004_1] 46 (0, 0))) := ⟨by (with_reducible repeat (first | refine blk_drewN ?_ _ | refine blk_drew ?_ | refine blk_alloc ?_ _)); refine blk_far ?_ NB700101_700116.out _; (with_reducible repeat (first | refine blk_drewN ?_ _ | refine blk_drew ?_ | refine blk_alloc ?_ _)); refine blk_far ?_ NB700101_700116.out _; (with_reducible repeat (first | refine blk_drewN ?_ _ | refine blk_drew ?_ | refine blk_alloc ?_ _)); refine blk_far ?_ NB700101_700116.out _; (with_reducible repeat (first | refine blk_drewN ?_ _ | refine blk_drew ?_ | refine blk_alloc ?_ _)); refine blk_far ?_ NB700101_700116.out _; (with_reducible repeat (first | refine blk_drewN ?_ _ | refine blk_drew ?_ | refine blk_alloc ?_ _)); refine blk_far ?_ NB700101_700116.out _; (with_reducible repeat (first | refine blk_drewN ?_ _ | refine blk_drew ?_ | refine blk_alloc ?_ _)); exact BK700101.out⟩
            have n3_ : Aside0 ((((((w48.setCell ⟨gb700116, 0, none⟩ (.int .i64 t700111)).setCell ⟨gb700116, 1, none⟩ (.int .i64 t700112)).setCell ⟨gb700116, 2, none⟩ (.int .i64 t700113)).setCell ⟨gb700116, 3, none⟩ (.int .i64 t700114)).setCell ⟨gb700116, 4, none⟩ (.int .i64 t700115)).heap[gb700116]? = some (.cells #[.int .i64 t700111, .int .i64 t700112, .int .i64 t700113, .int .i64 t700114, .int .i64 t700115] 46 (0, 0))) := ⟨by (with_reducible repeat (first | refine blk_drewN ?_ _ | refine blk_drew ?_ | refine blk_alloc ?_ _)); refine blk_put (cs := #[.int .i64 t700111, .int .i64 t700112, .int .i64 t700113, .int .i64 t700114, .int .i64 0]) ?_ 4 _ rfl; (with_reducible repeat (first | refine blk_drewN ?_ _ | refine blk_drew ?_ | refine blk_alloc ?_ _)); refine blk_put (cs := #[.int .i64 t700111, .int .i64 t700112, .int .i64 t700113, .int .i64 0, .int .i64 0]) ?_ 3 _ rfl; (with_reducible repeat (first | refine blk_drewN ?_ _ | refine blk_drew ?_ | refine blk_alloc ?_ _)); refine blk_put (cs := #[.int .i64 t700111, .int .i64 t700112, .int .i64 0, .int .i64 0, .int .i64 0]) ?_ 2 _ rfl; (with_reducible repeat (first | refine blk_drewN ?_ _ | refine blk_drew ?_ | refine blk_alloc ?_ _)); refine blk_put (cs := #[.int .i64 t700111, .int .i64 0, .int .i64 0, .int .i64 0, .int .i64 0]) ?_ 1 _ rfl; (with_reducible repeat (first | refine blk_drewN ?_ _ | refine blk_drew ?_ | refine blk_alloc ?_ _)); refine blk_put (cs := #[.int .i64 0, .int .i64 0, .int .i64 0, .int .i64 0, .int .i64 0]) ?_ 0 _ rfl; (with_reducible repeat (first | refine blk_drewN ?_ _ | refine blk_drew ?_ | refine blk_alloc ?_ _)); exact BK700116.out⟩
            have n4_ : Aside0 (Below w.heap.size w (((((w48.setCell ⟨gb700116, 0, none⟩ (.int .i64 t700111)).setCell ⟨gb700116, 1, none⟩ (.int .i64 t700112)).setCell ⟨gb700116, 2, none⟩ (.int .i64 t700113)).setCell ⟨gb700116, 3, none⟩ (.int .i64 t700114)).setCell ⟨gb700116, 4, none⟩ (.int .i64 t700115))) := ⟨by repeat (first | (with_reducible first | exact HB.out | apply below_alloc | apply pw_below_drewN | apply below_drew1 | refine below_set ?_ GE700101.out | refine below_set ?_ GE700116.out) | exact HB.out)⟩
            (try clear HO_5)
            (try clear HO700109)
            (try clear BK700101)
            (try clear BK700116)
            (try clear HB)
            generalize (((((w48.setCell ⟨gb700116, 0, none⟩ (.int .i64 t700111)).setCell ⟨gb700116, 1, none⟩ (.int .i64 t700112)).setCell ⟨gb700116, 2, none⟩ (.int .i64 t700113)).setCell ⟨gb700116, 3, none⟩ (.int .i64 t700114)).setCell ⟨gb700116, 4, none⟩ (.int .i64 t700115)) = w51 at n0_ n1_ n2_ n3_ n4_ ⊢
            have HO_5 := n0_
            have HO700109 := n1_
            have BK700101 := n2_
            have BK700116 := n3_
            have HB := n4_
            clear n0_ n1_ n2_ n3_ n4_
            have n0_ := Aside0.mk (Kd.S_drew HO_5.out)
            have n1_ := Aside0.mk (Kd.R_drew HO700109.out)
            have n2_ := Aside0.mk (blk_drew BK700101.out)
            have n3_ := Aside0.mk (blk_drew BK700116.out)
            have n4_ := Aside0.mk (below_drew1 HB.out)
            clear HO_5
            clear HO700109
            clear BK700101
            clear BK700116
            clear HB
            have HO_5 := n0_
            have HO700109 := n1_
            have BK700101 := n2_
            have BK700116 := n3_
            have HB := n4_
            clear n0_ n1_ n2_ n3_ n4_
            refine start_ (n := 7) (S := fun w' => w'.cell? ⟨gb700116, 0, none⟩ = some (.int .i64 t700111) ∧ w'.cell? ⟨gb700116, 1, none⟩ = some (.int .i64 t700112) ∧ w'.cell? ⟨gb700116, 2, none⟩ = some (.int .i64 t700113) ∧ w'.cell? ⟨gb700116, 3, none⟩ = some (.int .i64 t700114) ∧ w'.cell? ⟨gb700116, 4, none⟩ = some (.int .i64 t700115)) (ds := []) #[false, false, false, false, false, false, false] (by kernel_rfl) rfl rfl ⟨(blk_cell BK700116.out 0).trans rfl, (blk_cell BK700116.out 1).trans rfl, (blk_cell BK700116.out 2).trans rfl, (blk_cell BK700116.out 3).trans rfl, (blk_cell BK700116.out 4).trans rfl⟩ (fun hHeld => ?_)
            generalize w51.drew = w52 at HO_5 HO700109 BK700101 BK700116 HB hHeld ⊢
            refine pure_ (i := 0) (N := some 33) (v := ?_) (a' := ?_) #[true, false, false, false, false, false, false] rfl rfl (by kernel_rfl) (fun _ _ _ h => h) (Or.inl ⟨by rfl, ?_⟩) ?_ ?_
            rotate_left
            · intro w'
              go_simp
              with_reducible rfl
            rotate_left
            · simp only [Act.put, List.setIfInBounds_toArray, List.set_cons_zero, List.set_cons_succ, i64_w, i32_w]
              rfl
            refine pure_ (i := 1) (N := some 34) (v := ?_) (a' := ?_) #[true, true, false, false, false, false, false] rfl rfl (by kernel_rfl) (fun _ _ _ h => h) (Or.inl ⟨by rfl, ?_⟩) ?_ ?_
            rotate_left
            · intro w'
              go_simp
              with_reducible rfl
            rotate_left
            · simp only [Act.put, List.setIfInBounds_toArray, List.set_cons_zero, List.set_cons_succ, i64_w, i32_w]
              rfl
            refine pure_ (i := 2) (N := some 35) (v := ?_) (a' := ?_) #[true, true, true, false, false, false, false] rfl rfl (by kernel_rfl) (fun _ _ _ h => h) (Or.inl ⟨by rfl, ?_⟩) ?_ ?_
            rotate_left
            · intro w'
              go_simp
              with_reducible rfl
            rotate_left
            · simp only [Act.put, List.setIfInBounds_toArray, List.set_cons_zero, List.set_cons_succ, i64_w, i32_w]
              rfl
            refine pure_ (i := 4) (N := some 2) (v := ?_) (a' := ?_) #[true, true, true, false, true, false, false] rfl rfl (by kernel_rfl) (fun _ _ _ h => h) (Or.inl ⟨by rfl, ?_⟩) ?_ ?_
            rotate_left
            · intro w'
              go_simp
              with_reducible rfl
            rotate_left
            · simp only [Act.put, List.setIfInBounds_toArray, List.set_cons_zero, List.set_cons_succ, i64_w, i32_w]
              rfl
            refine pure_ (i := 5) (N := some 3) (v := ?_) (a' := ?_) #[true, true, true, false, true, true, false] rfl rfl (by kernel_rfl) (fun _ _ _ h => h) (Or.inl ⟨by rfl, ?_⟩) ?_ ?_
            rotate_left
            · intro w'
              go_simp
              with_reducible rfl
            rotate_left
            · simp only [Act.put, List.setIfInBounds_toArray, List.set_cons_zero, List.set_cons_succ, i64_w, i32_w]
              rfl
            refine take_ (i := 3) (N := some 36) (v := ?_) (a' := ?_) #[true, true, true, true, true, true, false] rfl rfl (by kernel_rfl) (fun _ _ _ h => h) (Or.inl ⟨by rfl, ?_⟩) hHeld ?_ ?_
            rotate_left
            · rintro w' ⟨s0, s1, s2, s3, s4⟩
              go_simp
              with_reducible rfl
            rotate_left
            · simp only [Act.put, List.setIfInBounds_toArray, List.set_cons_zero, List.set_cons_succ, i64_w, i32_w]
              rfl
            refine one_ (i := 6) (N := none) #[true, true, true, true, true, true, true] rfl rfl (by kernel_rfl) (by decide) (fun K hK => ?_)
            have hs53 : w52.cell? ⟨gb700101, 0, none⟩ = some (.int .i64 x700102000_1) := (blk_cell BK700101.out 0).trans rfl
            have hfs53 := blk_frozen BK700101.out 0
            have hns53_1 := NB700116_700101.out
            have hms53_1 := NB700101_700116.out
            have hs54 : w52.cell? ⟨gb700101, 1, none⟩ = some (.int .i64 x700102001_1) := (blk_cell BK700101.out 1).trans rfl
            have hfs54 := blk_frozen BK700101.out 1
            have hns54_1 := NB700116_700101.out
            have hms54_1 := NB700101_700116.out
            have hs55 : w52.cell? ⟨gb700101, 2, none⟩ = some (.int .i64 x700102002_1) := (blk_cell BK700101.out 2).trans rfl
            have hfs55 := blk_frozen BK700101.out 2
            have hns55_1 := NB700116_700101.out
            have hms55_1 := NB700101_700116.out
            have hs56 : w52.cell? ⟨gb700101, 3, none⟩ = some (.int .i64 x700102003_1) := (blk_cell BK700101.out 3).trans rfl
            have hfs56 := blk_frozen BK700101.out 3
            have hns56_1 := NB700116_700101.out
            have hms56_1 := NB700101_700116.out
            have hs57 : w52.cell? ⟨gb700101, 4, none⟩ = some (.int .i64 x700102004_1) := (blk_cell BK700101.out 4).trans rfl
            have hfs57 := blk_frozen BK700101.out 4
            have hns57_1 := NB700116_700101.out
            have hms57_1 := NB700101_700116.out
            refine skip_ (w1 := ?_) (by rfl) rfl ?_ ?_
            rotate_left
            · go_simp
              rfl
            refine hK.out _ _ ⟨((cell_far (p := ⟨gb700101, _, none⟩) NB700116_700101.out _).trans (((cell_far (p := ⟨gb700101, _, none⟩) NB700116_700101.out _).trans (((cell_far (p := ⟨gb700101, _, none⟩) NB700116_700101.out _).trans (((cell_far (p := ⟨gb700101, _, none⟩) NB700116_700101.out _).trans (((cell_far (p := ⟨gb700101, _, none⟩) NB700116_700101.out _).trans (hHeld.1)))))))))), ((cell_far (p := ⟨gb700101, _, none⟩) NB700116_700101.out _).trans (((cell_far (p := ⟨gb700101, _, none⟩) NB700116_700101.out _).trans (((cell_far (p := ⟨gb700101, _, none⟩) NB700116_700101.out _).trans (((cell_far (p := ⟨gb700101, _, none⟩) NB700116_700101.out _).trans (((cell_far (p := ⟨gb700101, _, none⟩) NB700116_700101.out _).trans (hHeld.2.1)))))))))), ((cell_far (p := ⟨gb700101, _, none⟩) NB700116_700101.out _).trans (((cell_far (p := ⟨gb700101, _, none⟩) NB700116_700101.out _).trans (((cell_far (p := ⟨gb700101, _, none⟩) NB700116_700101.out _).trans (((cell_far (p := ⟨gb700101, _, none⟩) NB700116_700101.out _).trans (((cell_far (p := ⟨gb700101, _, none⟩) NB700116_700101.out _).trans (hHeld.2.2.1)))))))))), ((cell_far (p := ⟨gb700101, _, none⟩) NB700116_700101.out _).trans (((cell_far (p := ⟨gb700101, _, none⟩) NB700116_700101.out _).trans (((cell_far (p := ⟨gb700101, _, none⟩) NB700116_700101.out _).trans (((cell_far (p := ⟨gb700101, _, none⟩) NB700116_700101.out _).trans (((cell_far (p := ⟨gb700101, _, none⟩) NB700116_700101.out _).trans (hHeld.2.2.2.1)))))))))), ((cell_far (p := ⟨gb700101, _, none⟩) NB700116_700101.out _).trans (((cell_far (p := ⟨gb700101, _, none⟩) NB700116_700101.out _).trans (((cell_far (p := ⟨gb700101, _, none⟩) NB700116_700101.out _).trans (((cell_far (p := ⟨gb700101, _, none⟩) NB700116_700101.out _).trans (((cell_far (p := ⟨gb700101, _, none⟩) NB700116_700101.out _).trans (hHeld.2.2.2.2))))))))))⟩ (fun hHeld => ?_)
            clear hK K
            refine done_ (by kernel_rfl) ?_
            try go_wp2
            refine bodyPost_ret (results_list (rs := [.tmp 2, .tmp 3, .cell 4 46]) rfl (by simp) (.tmp (.tmp (.cell gb700101 46 #[.int .i64 t700111, .int .i64 t700112, .int .i64 t700113, .int .i64 t700114, .int .i64 t700115] (0, 0) _ rfl (by (with_reducible repeat (first | refine blk_drewN ?_ _ | refine blk_drew ?_ | refine blk_alloc ?_ _)); refine blk_put (cs := #[.int .i64 t700111, .int .i64 t700112, .int .i64 t700113, .int .i64 t700114, .int .i64 x700102004_1]) ?_ 4 _ rfl; (with_reducible repeat (first | refine blk_drewN ?_ _ | refine blk_drew ?_ | refine blk_alloc ?_ _)); refine blk_put (cs := #[.int .i64 t700111, .int .i64 t700112, .int .i64 t700113, .int .i64 x700102003_1, .int .i64 x700102004_1]) ?_ 3 _ rfl; (with_reducible repeat (first | refine blk_drewN ?_ _ | refine blk_drew ?_ | refine blk_alloc ?_ _)); refine blk_put (cs := #[.int .i64 t700111, .int .i64 t700112, .int .i64 x700102002_1, .int .i64 x700102003_1, .int .i64 x700102004_1]) ?_ 2 _ rfl; (with_reducible repeat (first | refine blk_drewN ?_ _ | refine blk_drew ?_ | refine blk_alloc ?_ _)); refine blk_put (cs := #[.int .i64 t700111, .int .i64 x700102001_1, .int .i64 x700102002_1, .int .i64 x700102003_1, .int .i64 x700102004_1]) ?_ 1 _ rfl; (with_reducible repeat (first | refine blk_drewN ?_ _ | refine blk_drew ?_ | refine blk_alloc ?_ _)); refine blk_put (cs := #[.int .i64 x700102000_1, .int .i64 x700102001_1, .int .i64 x700102002_1, .int .i64 x700102003_1, .int .i64 x700102004_1]) ?_ 0 _ rfl; (with_reducible repeat (first | refine blk_drewN ?_ _ | refine blk_drew ?_ | refine blk_alloc ?_ _)); exact BK700101.out) Tryz.underlying46 rfl (by kernel_rfl) .nil)))) rfl ?_
            exact ⟨_, by first | rfl | (simp [errW_none, errW_some] <;> rfl) | (simp [*, errW_none, errW_some] <;> rfl), by (with_reducible repeat (first | apply Kd.S_alloc | apply Kd.S_drewN | apply Kd.S_drew)); exact Kd.S_mono (Kd.S_far (p := ⟨gb700101, 4, none⟩) (Kd.S_far (p := ⟨gb700101, 3, none⟩) (Kd.S_far (p := ⟨gb700101, 2, none⟩) (Kd.S_far (p := ⟨gb700101, 1, none⟩) (Kd.S_far (p := ⟨gb700101, 0, none⟩) (Kd.S_types HO_5.out BK700101.out (by decide)) (fun _ hk => hk.2) (.int .i64 t700111)) (fun _ hk => hk.2) (.int .i64 t700112)) (fun _ hk => hk.2) (.int .i64 t700113)) (fun _ hk => hk.2) (.int .i64 t700114)) (fun _ hk => hk.2) (.int .i64 t700115)) (fun _ hk => trivial), by repeat (first | (with_reducible first | exact HB.out | apply below_alloc | apply pw_below_drewN | apply below_drew1 | refine below_set ?_ GE700101.out | refine below_set ?_ GE700116.out) | exact HB.out)⟩
      · rw [if_neg c3] at H
        have c3b0 : decide (x6_1 < (a0.size : Int)) = false := decide_eq_false c3
        clear c3
        simp only [Option.some.injEq, Prod.mk.injEq] at H
        obtain ⟨rfl, rfl, rfl, rfl, rfl, rfl, rfl⟩ := H
        obtain ⟨Ao58, co58, eo58⟩ := Kd.S_slice HO_5.out
        subst eo58
        have hcz59_0 : wr.cell? ⟨gb700101, 0, none⟩ = some (.int .i64 x700102000_1) := (blk_cell BK700101.out 0).trans rfl
        have hcz59_1 : wr.cell? ⟨gb700101, 1, none⟩ = some (.int .i64 x700102001_1) := (blk_cell BK700101.out 1).trans rfl
        have hcz59_2 : wr.cell? ⟨gb700101, 2, none⟩ = some (.int .i64 x700102002_1) := (blk_cell BK700101.out 2).trans rfl
        have hcz59_3 : wr.cell? ⟨gb700101, 3, none⟩ = some (.int .i64 x700102003_1) := (blk_cell BK700101.out 3).trans rfl
        have hcz59_4 : wr.cell? ⟨gb700101, 4, none⟩ = some (.int .i64 x700102004_1) := (blk_cell BK700101.out 4).trans rfl
        have hfz59_0 := blk_frozen BK700101.out 0
        have hfz59_1 := blk_frozen BK700101.out 1
        have hfz59_2 := blk_frozen BK700101.out 2
        have hfz59_3 := blk_frozen BK700101.out 3
        have hfz59_4 := blk_frozen BK700101.out 4
        go_wp2
        refine bodyPost_ret (results_list (rs := [.tmp 2, .tmp 3, .cell 4 46]) rfl (by simp) (.tmp (.tmp (.cell gb700101 46 #[.int .i64 0, .int .i64 0, .int .i64 0, .int .i64 0, .int .i64 0] (0, 0) _ rfl (by (with_reducible repeat (first | refine blk_drewN ?_ _ | refine blk_drew ?_ | refine blk_alloc ?_ _)); refine blk_put (cs := #[.int .i64 0, .int .i64 0, .int .i64 0, .int .i64 0, .int .i64 x700102004_1]) ?_ 4 _ rfl; (with_reducible repeat (first | refine blk_drewN ?_ _ | refine blk_drew ?_ | refine blk_alloc ?_ _)); refine blk_put (cs := #[.int .i64 0, .int .i64 0, .int .i64 0, .int .i64 x700102003_1, .int .i64 x700102004_1]) ?_ 3 _ rfl; (with_reducible repeat (first | refine blk_drewN ?_ _ | refine blk_drew ?_ | refine blk_alloc ?_ _)); refine blk_put (cs := #[.int .i64 0, .int .i64 0, .int .i64 x700102002_1, .int .i64 x700102003_1, .int .i64 x700102004_1]) ?_ 2 _ rfl; (with_reducible repeat (first | refine blk_drewN ?_ _ | refine blk_drew ?_ | refine blk_alloc ?_ _)); refine blk_put (cs := #[.int .i64 0, .int .i64 x700102001_1, .int .i64 x700102002_1, .int .i64 x700102003_1, .int .i64 x700102004_1]) ?_ 1 _ rfl; (with_reducible repeat (first | refine blk_drewN ?_ _ | refine blk_drew ?_ | refine blk_alloc ?_ _)); refine blk_put (cs := #[.int .i64 x700102000_1, .int .i64 x700102001_1, .int .i64 x700102002_1, .int .i64 x700102003_1, .int .i64 x700102004_1]) ?_ 0 _ rfl; (with_reducible repeat (first | refine blk_drewN ?_ _ | refine blk_drew ?_ | refine blk_alloc ?_ _)); exact BK700101.out) Tryz.underlying46 rfl (by kernel_rfl) .nil)))) rfl ?_
        exact ⟨_, by first | rfl | (simp [errW_none, errW_some] <;> rfl) | (simp [*, errW_none, errW_some] <;> rfl), by (with_reducible repeat (first | apply Kd.S_alloc | apply Kd.S_drewN | apply Kd.S_drew)); exact Kd.S_mono (Kd.S_far (p := ⟨gb700101, 4, none⟩) (Kd.S_far (p := ⟨gb700101, 3, none⟩) (Kd.S_far (p := ⟨gb700101, 2, none⟩) (Kd.S_far (p := ⟨gb700101, 1, none⟩) (Kd.S_far (p := ⟨gb700101, 0, none⟩) (Kd.S_types HO_5.out BK700101.out (by decide)) (fun _ hk => hk.2) (.int .i64 0)) (fun _ hk => hk.2) (.int .i64 0)) (fun _ hk => hk.2) (.int .i64 0)) (fun _ hk => hk.2) (.int .i64 0)) (fun _ hk => hk.2) (.int .i64 0)) (fun _ hk => trivial), by repeat (first | (with_reducible first | exact HB.out | apply below_alloc | apply pw_below_drewN | apply below_drew1 | refine below_set ?_ GE700101.out) | exact HB.out)⟩

end Go.Proofs.YtappphffbnkloaaGreatDoor.GS
