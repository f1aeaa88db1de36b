-- written by a program (gp.py over the kit's print) for this claim
import Derived.Test.YtappphffbnkloaaGreatDoorGSx0
import Derived.Test.YtappphffbnkloaaGreatDoorGSxf46
import Derived.Test.YtappphffbnkloaaGreatDoorGSxf71
import Derived.Test.YtappphffbnkloaaGreatDoorGSxf70
namespace Go.Proofs.YtappphffbnkloaaGreatDoor.GS
open Go.RowKit Go.Proofs.YtappphffbnkloaaGreatDoorW.PrintWords Go.Proofs.YtappphffbnkloaaGreatDoorW.PrintLast Go.Proofs.YtappphffbnkloaaGreatDoor.Ext
attribute [local go_sem] max2_int min2_int max_two min_two   -- for this text alone
set_option linter.unusedVariables false
set_option linter.unusedSimpArgs false

def larderref04_Read.f (k : Nat) (a0 : ByteArray) : Option ((List (List ByteArray)) × Int × Int × Int × Int × Int × Int) := if (a0.size : Int) ≤ 262144 then ((larderref04_read.f k a0).bind fun bt390102 => (some (bt390102.1, bt390102.2.1, bt390102.2.2.1, bt390102.2.2.2.1, bt390102.2.2.2.2.1, bt390102.2.2.2.2.2.1, bt390102.2.2.2.2.2.2))) else (if 0 ≤ 262144 then (if 262144 ≤ (a0.size : Int) then ((larderref04_read.f k (a0.extract 0 262144)).bind fun bt390111 => ((larderref04_shows.f k (a0.extract 0 262144) bt390111.2.2.1 bt390111.2.2.2.1 bt390111.2.2.2.2.1 bt390111.2.2.2.2.2.1 bt390111.2.2.2.2.2.2).bind fun t390121 => (if t390121 = true then (some (bt390111.1, bt390111.2.1, bt390111.2.2.1, bt390111.2.2.2.1, bt390111.2.2.2.2.1, bt390111.2.2.2.2.2.1, bt390111.2.2.2.2.2.2)) else (if 0 ≤ bt390111.2.1 then (if bt390111.2.1 ≤ (bt390111.1.length : Int) then ((larderref04_placed.f k a0 20 262144).bind fun bt390125 => (some ((bt390111.1.take (bt390111.2.1 : Int).toNat), bt390111.2.1, bt390125.1, bt390125.2.1, bt390125.2.2.1, bt390125.2.2.2.1, bt390125.2.2.2.2))) else (none)) else (none))))) else (none)) else (none))
theorem larderref04_Read.mono : ∀ a0 k, LeO (larderref04_Read.f k a0) (larderref04_Read.f (k + 1) a0) := by
  intro a0 k
  unfold larderref04_Read.f
  repeat' first
      | (with_reducible exact larderref04_placed.mono _ _ _ _)
      | (with_reducible exact larderref04_read.mono _ _)
      | (with_reducible exact larderref04_shows.mono _ _ _ _ _ _ _)
      | (with_reducible exact LeO.refl _)
      | (with_reducible exact LeO.none _)
      | (with_reducible refine LeO.ite ?_ ?_)
      | (with_reducible refine LeO.bind ?_ (fun _ => ?_))
      | exact larderref04_placed.mono _ _ _ _
      | exact larderref04_read.mono _ _
      | exact larderref04_shows.mono _ _ _ _ _ _ _
      | exact LeO.none _
      | refine LeO.ite ?_ ?_
      | refine LeO.bind ?_ (fun _ => ?_)
def larderref04_Read.T7 : Bool × List (List Nat × List Nat) := (true, [([], []), ([], []), ([0, 1], [0, 1]), ([], []), ([], []), ([4], [4]), ([2, 5, 0, 1, 2], [2]), ([3, 6, 0, 1, 2, 3, 6], [3]), ([5, 7, 0, 1, 2, 3, 4, 5, 6, 7], [5])])
def larderref04_Read.B7 : List Nat := [0, 0, 3, 0, 0, 16, 55, 127, 255]
theorem larderref04_Read.tab7 : rtab .any (opsOf Tryz.f39 7) = larderref04_Read.T7 := by kernel_rfl
theorem larderref04_Read.bits7 : waitsOk larderref04_Read.T7.2 larderref04_Read.B7 = true := by kernel_rfl
set_option maxHeartbeats 8000000 in
set_option maxRecDepth 100000 in
theorem larderref04_Read.calls (k : Nat) (a0 : ByteArray) (r1 : List (List ByteArray)) (r2 : Int) (r3 : Int) (r4 : Int) (r5 : Int) (r6 : Int) (r7 : Int) (w : World) (h : larderref04_Read.f k a0 = some (r1, r2, r3, r4, r5, r6, r7)) :
    Calls Tryz.prog 39 #[.string a0] w fun e w' => ∃ v0_ : Value, e = .returned (.tuple #[v0_, .int .i64 r2, .agg #[.int .i64 r3, .int .i64 r4, .int .i64 r5, .int .i64 r6, .int .i64 r7]]) ∧ Kd.S (Kd.slice 9 Kd.string) 28 w' w.heap.size (fun _ => True) v0_ r1 ∧ Below w.heap.size w w' := by
  have hu46 := Tryz.underlying46
  have HB := Aside0.mk (Below.refl w.heap.size w)
  have H : (if (a0.size : Int) ≤ 262144 then ((larderref04_read.f k a0).bind fun bt390102 => (some (bt390102.1, bt390102.2.1, bt390102.2.2.1, bt390102.2.2.2.1, bt390102.2.2.2.2.1, bt390102.2.2.2.2.2.1, bt390102.2.2.2.2.2.2))) else (if 0 ≤ 262144 then (if 262144 ≤ (a0.size : Int) then ((larderref04_read.f k (a0.extract 0 262144)).bind fun bt390111 => ((larderref04_shows.f k (a0.extract 0 262144) bt390111.2.2.1 bt390111.2.2.2.1 bt390111.2.2.2.2.1 bt390111.2.2.2.2.2.1 bt390111.2.2.2.2.2.2).bind fun t390121 => (if t390121 = true then (some (bt390111.1, bt390111.2.1, bt390111.2.2.1, bt390111.2.2.2.1, bt390111.2.2.2.2.1, bt390111.2.2.2.2.2.1, bt390111.2.2.2.2.2.2)) else (if 0 ≤ bt390111.2.1 then (if bt390111.2.1 ≤ (bt390111.1.length : Int) then ((larderref04_placed.f k a0 20 262144).bind fun bt390125 => (some ((bt390111.1.take (bt390111.2.1 : Int).toNat), bt390111.2.1, bt390125.1, bt390125.2.1, bt390125.2.2.1, bt390125.2.2.2.1, bt390125.2.2.2.2))) else (none)) else (none))))) else (none)) else (none))) = some (r1, r2, r3, r4, r5, r6, r7) := h
  clear h
  by_cases c2 : (a0.size : Int) ≤ 262144
  · rw [if_pos c2] at H
    have c2b0 : decide ((a0.size : Int) ≤ 262144) = true := decide_eq_true c2
    have c2b1 : decide (a0.size ≤ 262144) = true := decide_eq_true (by omega)
    clear c2
    replace H := Option.bind_eq_some_iff.mp H
    obtain ⟨⟨t390102, t390105, t390106, t390107, t390108, t390109, t390110⟩, A30, H⟩ := H
    replace H : (some (t390102, t390105, t390106, t390107, t390108, t390109, t390110)) = some (r1, r2, r3, r4, r5, r6, r7) := H
    have A3 := Aside0.mk A30
    clear A30
    simp only [Option.some.injEq, Prod.mk.injEq] at H
    obtain ⟨rfl, rfl, rfl, rfl, rfl, rfl, rfl⟩ := H
    go_enter Tryz.func39, Tryz.ntmps39
    go_wp2_with (first | ((with_reducible refine gate_dst (N := 4) rfl ?_); refine box_event ?hg (N := 4) ?hd (cs := #[.int .i64 0, .int .i64 0, .int .i64 0, .int .i64 0, .int .i64 0]) (t := 46) ?hr ?_; (case hd => rfl); (case hg => rfl); (case hr => first | (go_simp; done) | (go_simp; rfl)); intro gb390101 hg w4 hbox hb; have n0_ := Aside0.mk (below_step (by repeat (first | (with_reducible first | exact HB.out | apply below_alloc | apply pw_below_drewN | apply below_drew1) | exact HB.out)) hb); have n1_ := Aside0.mk (hbox); have n2_ := Aside0.mk ((by rw [hg]; exact (below_size (by repeat (first | (with_reducible first | exact HB.out | apply below_alloc | apply pw_below_drewN | apply below_drew1) | exact HB.out))) : w.heap.size ≤ gb390101)); have n3_ := Aside0.mk ((by rw [hg]; exact (below_size (by repeat (first | (with_reducible first | exact HB.out | apply below_alloc | apply pw_below_drewN | apply below_drew1) | exact HB.out))) : w.heap.size ≤ gb390101)); clear HB; have HB := n0_; have BK390101 := n1_; have GW390101 := n2_; have GE390101 := n3_; clear n0_ n1_ n2_ n3_; clear hb hbox hg) | ((with_reducible refine gate_callee (f := 70) rfl ?_); refine goesL_ (some 13) rfl rfl Tryz.func70 (by kernel_rfl) rfl #[.string a0] rfl (by (try simp only [List.map_toArray, List.map_cons, List.map_nil]); first | done | rfl | (simp only [List.length_drop, List.length_take]; rfl)) ?_; (with_reducible refine (larderref04_read.calls k a0 t390102 t390105 t390106 t390107 t390108 t390109 t390110 _ A3.out).mono ?_); rintro e w5 ⟨v390103, rfl, ho0, hb⟩; refine ⟨_, rfl, ?_⟩; have n0_ := Aside0.mk (Kd.S_lower ho0 (below_size (by repeat (first | (with_reducible first | exact HB.out | apply below_alloc | apply pw_below_drewN | apply below_drew1 | refine below_set ?_ GE390101.out) | exact HB.out)))); have n1_ := Aside0.mk (blk_below (g := gb390101) (o := .cells #[.int .i64 0, .int .i64 0, .int .i64 0, .int .i64 0, .int .i64 0] 46 (0, 0)) (by (with_reducible repeat (first | refine blk_drewN ?_ _ | refine blk_drew ?_ | refine blk_alloc ?_ _)); exact BK390101.out) hb); have n2_ := Aside0.mk (below_step (by repeat (first | (with_reducible first | exact HB.out | apply below_alloc | apply pw_below_drewN | apply below_drew1 | refine below_set ?_ GE390101.out) | exact HB.out)) hb); clear BK390101; clear HB; have HO390104 := n0_; have BK390101 := n1_; have HB := n2_; clear n0_ n1_ n2_; (try clear hb); (try clear hb2); (try clear hk); (try clear hi); (try clear ho0); have hcz6_0 : w5.cell? ⟨gb390101, 0, none⟩ = some (.int .i64 0) := (blk_cell BK390101.out 0).trans rfl; have hcz6_1 : w5.cell? ⟨gb390101, 1, none⟩ = some (.int .i64 0) := (blk_cell BK390101.out 1).trans rfl; have hcz6_2 : w5.cell? ⟨gb390101, 2, none⟩ = some (.int .i64 0) := (blk_cell BK390101.out 2).trans rfl; have hcz6_3 : w5.cell? ⟨gb390101, 3, none⟩ = some (.int .i64 0) := (blk_cell BK390101.out 3).trans rfl; have hcz6_4 : w5.cell? ⟨gb390101, 4, none⟩ = some (.int .i64 0) := (blk_cell BK390101.out 4).trans rfl; have hfz6_0 := blk_frozen BK390101.out 0; have hfz6_1 := blk_frozen BK390101.out 1; have hfz6_2 := blk_frozen BK390101.out 2; have hfz6_3 := blk_frozen BK390101.out 3; have hfz6_4 := blk_frozen BK390101.out 4))
    refine bodyPost_ret (results_list (rs := [.tmp 2, .tmp 3, .cell 4 46]) rfl (by simp) (.tmp (.tmp (.cell gb390101 46 #[.int .i64 t390106, .int .i64 t390107, .int .i64 t390108, .int .i64 t390109, .int .i64 t390110] (0, 0) _ rfl (by (with_reducible repeat (first | refine blk_drewN ?_ _ | refine blk_drew ?_ | refine blk_alloc ?_ _)); refine blk_put (cs := #[.int .i64 t390106, .int .i64 t390107, .int .i64 t390108, .int .i64 t390109, .int .i64 0]) ?_ 4 _ rfl; (with_reducible repeat (first | refine blk_drewN ?_ _ | refine blk_drew ?_ | refine blk_alloc ?_ _)); refine blk_put (cs := #[.int .i64 t390106, .int .i64 t390107, .int .i64 t390108, .int .i64 0, .int .i64 0]) ?_ 3 _ rfl; (with_reducible repeat (first | refine blk_drewN ?_ _ | refine blk_drew ?_ | refine blk_alloc ?_ _)); refine blk_put (cs := #[.int .i64 t390106, .int .i64 t390107, .int .i64 0, .int .i64 0, .int .i64 0]) ?_ 2 _ rfl; (with_reducible repeat (first | refine blk_drewN ?_ _ | refine blk_drew ?_ | refine blk_alloc ?_ _)); refine blk_put (cs := #[.int .i64 t390106, .int .i64 0, .int .i64 0, .int .i64 0, .int .i64 0]) ?_ 1 _ rfl; (with_reducible repeat (first | refine blk_drewN ?_ _ | refine blk_drew ?_ | refine blk_alloc ?_ _)); refine blk_put (cs := #[.int .i64 0, .int .i64 0, .int .i64 0, .int .i64 0, .int .i64 0]) ?_ 0 _ rfl; (with_reducible repeat (first | refine blk_drewN ?_ _ | refine blk_drew ?_ | refine blk_alloc ?_ _)); exact BK390101.out) Tryz.underlying46 rfl (by kernel_rfl) .nil)))) rfl ?_
    exact ⟨_, by first | rfl | (simp [errW_none, errW_some] <;> rfl) | (simp [*, errW_none, errW_some] <;> rfl), by (with_reducible repeat (first | apply Kd.S_alloc | apply Kd.S_drewN | apply Kd.S_drew)); exact Kd.S_mono (Kd.S_far (p := ⟨gb390101, 4, none⟩) (Kd.S_far (p := ⟨gb390101, 3, none⟩) (Kd.S_far (p := ⟨gb390101, 2, none⟩) (Kd.S_far (p := ⟨gb390101, 1, none⟩) (Kd.S_far (p := ⟨gb390101, 0, none⟩) (Kd.S_types HO390104.out BK390101.out (by decide)) (fun _ hk => hk.2) (.int .i64 t390106)) (fun _ hk => hk.2) (.int .i64 t390107)) (fun _ hk => hk.2) (.int .i64 t390108)) (fun _ hk => hk.2) (.int .i64 t390109)) (fun _ hk => hk.2) (.int .i64 t390110)) (fun _ hk => trivial), by repeat (first | (with_reducible first | exact HB.out | apply below_alloc | apply pw_below_drewN | apply below_drew1 | refine below_set ?_ GE390101.out) | exact HB.out)⟩
  · rw [if_neg c2] at H
    have c2b0 : decide ((a0.size : Int) ≤ 262144) = false := decide_eq_false c2
    have c2b1 : decide (a0.size ≤ 262144) = false := decide_eq_false (by omega)
    clear c2
    by_cases c7 : 0 ≤ 262144
    · rw [if_pos c7] at H
      have c7b0 := eq_true c7
      have c7b1 : decide (0 ≤ 262144) = true := decide_eq_true c7
      clear c7
      by_cases c8 : 262144 ≤ (a0.size : Int)
      · rw [if_pos c8] at H
        have c8b0 := eq_true c8
        have c8b1 : decide (262144 ≤ (a0.size : Int)) = true := decide_eq_true c8
        clear c8
        replace H := Option.bind_eq_some_iff.mp H
        obtain ⟨⟨t390111, t390114, t390115, t390116, t390117, t390118, t390119⟩, A90, H⟩ := H
        replace H : ((larderref04_shows.f k (a0.extract 0 262144) t390115 t390116 t390117 t390118 t390119).bind fun t390121 => (if t390121 = true then (some (t390111, t390114, t390115, t390116, t390117, t390118, t390119)) else (if 0 ≤ t390114 then (if t390114 ≤ (t390111.length : Int) then ((larderref04_placed.f k a0 20 262144).bind fun bt390125 => (some ((t390111.take (t390114 : Int).toNat), t390114, bt390125.1, bt390125.2.1, bt390125.2.2.1, bt390125.2.2.2.1, bt390125.2.2.2.2))) else (none)) else (none)))) = some (r1, r2, r3, r4, r5, r6, r7) := H
        have A9 := Aside0.mk A90
        clear A90
        replace H := Option.bind_eq_some_iff.mp H
        obtain ⟨t390121, A100, H⟩ := H
        replace H : (if t390121 = true then (some (t390111, t390114, t390115, t390116, t390117, t390118, t390119)) else (if 0 ≤ t390114 then (if t390114 ≤ (t390111.length : Int) then ((larderref04_placed.f k a0 20 262144).bind fun bt390125 => (some ((t390111.take (t390114 : Int).toNat), t390114, bt390125.1, bt390125.2.1, bt390125.2.2.1, bt390125.2.2.2.1, bt390125.2.2.2.2))) else (none)) else (none))) = some (r1, r2, r3, r4, r5, r6, r7) := H
        have A10 := Aside0.mk A100
        clear A100
        by_cases c11 : t390121 = true
        · subst c11
          have H1 : (some (t390111, t390114, t390115, t390116, t390117, t390118, t390119)) = some (r1, r2, r3, r4, r5, r6, r7) := by rw [if_pos rfl] at H; exact H
          clear H
          have H := H1
          clear H1
          simp only [Option.some.injEq, Prod.mk.injEq] at H
          obtain ⟨rfl, rfl, rfl, rfl, rfl, rfl, rfl⟩ := H
          go_enter Tryz.func39, Tryz.ntmps39
          try go_wp2_with (first | ((with_reducible refine gate_dst (N := 4) rfl ?_); refine box_event ?hg (N := 4) ?hd (cs := #[.int .i64 0, .int .i64 0, .int .i64 0, .int .i64 0, .int .i64 0]) (t := 46) ?hr ?_; (case hd => rfl); (case hg => rfl); (case hr => first | (go_simp; done) | (go_simp; rfl)); intro gb390101 hg w12 hbox hb; have n0_ := Aside0.mk (below_step (by repeat (first | (with_reducible first | exact HB.out | apply below_alloc | apply pw_below_drewN | apply below_drew1) | exact HB.out)) hb); have n1_ := Aside0.mk (hbox); have n2_ := Aside0.mk ((by rw [hg]; exact (below_size (by repeat (first | (with_reducible first | exact HB.out | apply below_alloc | apply pw_below_drewN | apply below_drew1) | exact HB.out))) : w.heap.size ≤ gb390101)); have n3_ := Aside0.mk ((by rw [hg]; exact (below_size (by repeat (first | (with_reducible first | exact HB.out | apply below_alloc | apply pw_below_drewN | apply below_drew1) | exact HB.out))) : w.heap.size ≤ gb390101)); clear HB; have HB := n0_; have BK390101 := n1_; have GW390101 := n2_; have GE390101 := n3_; clear n0_ n1_ n2_ n3_; clear hb hbox hg) | ((with_reducible refine gate_callee (f := 70) rfl ?_); refine goesL_ (some 21) rfl rfl Tryz.func70 (by kernel_rfl) rfl #[.string (a0.extract 0 262144)] rfl (by (try simp only [List.map_toArray, List.map_cons, List.map_nil]); first | done | rfl | (simp only [List.length_drop, List.length_take]; rfl)) ?_; (with_reducible refine (larderref04_read.calls k (a0.extract 0 262144) t390111 t390114 t390115 t390116 t390117 t390118 t390119 _ A9.out).mono ?_); rintro e w13 ⟨v390112, rfl, ho0, hb⟩; refine ⟨_, rfl, ?_⟩; have n0_ := Aside0.mk (Kd.S_lower ho0 (below_size (by repeat (first | (with_reducible first | exact HB.out | apply below_alloc | apply pw_below_drewN | apply below_drew1 | refine below_set ?_ GE390101.out) | exact HB.out)))); have n1_ := Aside0.mk (blk_below (g := gb390101) (o := .cells #[.int .i64 0, .int .i64 0, .int .i64 0, .int .i64 0, .int .i64 0] 46 (0, 0)) (by (with_reducible repeat (first | refine blk_drewN ?_ _ | refine blk_drew ?_ | refine blk_alloc ?_ _)); exact BK390101.out) hb); have n2_ := Aside0.mk (below_step (by repeat (first | (with_reducible first | exact HB.out | apply below_alloc | apply pw_below_drewN | apply below_drew1 | refine below_set ?_ GE390101.out) | exact HB.out)) hb); clear BK390101; clear HB; have HO390113 := n0_; have BK390101 := n1_; have HB := n2_; clear n0_ n1_ n2_; (try clear hb); (try clear hb2); (try clear hk); (try clear hi); (try clear ho0)) | ((with_reducible refine gate_dst (N := 8) rfl ?_); refine box_event ?hg (N := 8) ?hd (cs := #[.int .i64 0, .int .i64 0, .int .i64 0, .int .i64 0, .int .i64 0]) (t := 46) ?hr ?_; (case hd => rfl); (case hg => rfl); (case hr => first | (go_simp; done) | (go_simp; rfl)); intro gb390120 hg w14 hbox hb; have n0_ := Aside0.mk (Kd.S_below (by (with_reducible repeat (first | apply Kd.S_alloc | apply Kd.S_drewN | apply Kd.S_drew)); exact HO390113.out) hb); have n1_ := Aside0.mk (blk_below (g := gb390101) (o := .cells #[.int .i64 0, .int .i64 0, .int .i64 0, .int .i64 0, .int .i64 0] 46 (0, 0)) (by (with_reducible repeat (first | refine blk_drewN ?_ _ | refine blk_drew ?_ | refine blk_alloc ?_ _)); exact BK390101.out) hb); have n2_ := Aside0.mk (below_step (by repeat (first | (with_reducible first | exact HB.out | apply below_alloc | apply pw_below_drewN | apply below_drew1 | refine below_set ?_ GE390101.out) | exact HB.out)) hb); have n3_ := Aside0.mk (hbox); have n4_ := Aside0.mk ((by rw [hg]; exact (below_size (by repeat (first | (with_reducible first | exact HB.out | apply below_alloc | apply pw_below_drewN | apply below_drew1 | refine below_set ?_ GE390101.out) | exact HB.out))) : w.heap.size ≤ gb390120)); have n5_ := Aside0.mk ((by rw [hg]; exact (below_size (by repeat (first | (with_reducible first | exact HB.out | apply below_alloc | apply pw_below_drewN | apply below_drew1 | refine below_set ?_ GE390101.out) | exact HB.out))) : w.heap.size ≤ gb390120)); have n6_ := Aside0.mk ((by rw [hg]; exact Nat.ne_of_lt (blk_lt (g := gb390101) (o := .cells #[.int .i64 0, .int .i64 0, .int .i64 0, .int .i64 0, .int .i64 0] 46 (0, 0)) (by (with_reducible repeat (first | refine blk_drewN ?_ _ | refine blk_drew ?_ | refine blk_alloc ?_ _)); exact BK390101.out)) : gb390101 ≠ gb390120)); have n7_ := Aside0.mk ((by rw [hg]; exact Nat.ne_of_gt (blk_lt (g := gb390101) (o := .cells #[.int .i64 0, .int .i64 0, .int .i64 0, .int .i64 0, .int .i64 0] 46 (0, 0)) (by (with_reducible repeat (first | refine blk_drewN ?_ _ | refine blk_drew ?_ | refine blk_alloc ?_ _)); exact BK390101.out)) : gb390120 ≠ gb390101)); clear HO390113; clear BK390101; clear HB; have HO390113 := n0_; have BK390101 := n1_; have HB := n2_; have BK390120 := n3_; have GW390120 := n4_; have GE390120 := n5_; have NB390101_390120 := n6_; have NB390120_390101 := n7_; clear n0_ n1_ n2_ n3_ n4_ n5_ n6_ n7_; clear hb hbox hg; have hnb15 := NB390120_390101.out; have hnc15 := NB390101_390120.out; have hcz16_0 : w14.cell? ⟨gb390120, 0, none⟩ = some (.int .i64 0) := (blk_cell BK390120.out 0).trans rfl; have hcz16_1 : w14.cell? ⟨gb390120, 1, none⟩ = some (.int .i64 0) := (blk_cell BK390120.out 1).trans rfl; have hcz16_2 : w14.cell? ⟨gb390120, 2, none⟩ = some (.int .i64 0) := (blk_cell BK390120.out 2).trans rfl; have hcz16_3 : w14.cell? ⟨gb390120, 3, none⟩ = some (.int .i64 0) := (blk_cell BK390120.out 3).trans rfl; have hcz16_4 : w14.cell? ⟨gb390120, 4, none⟩ = some (.int .i64 0) := (blk_cell BK390120.out 4).trans rfl; have hfz16_0 := blk_frozen BK390120.out 0; have hfz16_1 := blk_frozen BK390120.out 1; have hfz16_2 := blk_frozen BK390120.out 2; have hfz16_3 := blk_frozen BK390120.out 3; have hfz16_4 := blk_frozen BK390120.out 4) | ((with_reducible refine gate_callee (f := 46) rfl ?_); refine goesL_ (some 27) rfl rfl Tryz.func46 (by kernel_rfl) rfl #[.string (a0.extract 0 262144), .agg #[.int .i64 t390115, .int .i64 t390116, .int .i64 t390117, .int .i64 t390118, .int .i64 t390119]] rfl (by (try simp only [List.map_toArray, List.map_cons, List.map_nil]); first | done | rfl | (simp only [List.length_drop, List.length_take]; rfl)) ?_; (with_reducible refine (larderref04_shows.calls k (a0.extract 0 262144) t390115 t390116 t390117 t390118 t390119 true _ A10.out).mono ?_); rintro e w17 ⟨rfl, hb⟩; refine ⟨_, rfl, ?_⟩; have n0_ := Aside0.mk (Kd.S_below (by (with_reducible repeat (first | apply Kd.S_alloc | apply Kd.S_drewN | apply Kd.S_drew)); exact (Kd.S_mono (Kd.S_far (p := ⟨gb390120, 4, none⟩) (Kd.S_far (p := ⟨gb390120, 3, none⟩) (Kd.S_far (p := ⟨gb390120, 2, none⟩) (Kd.S_far (p := ⟨gb390120, 1, none⟩) (Kd.S_far (p := ⟨gb390120, 0, none⟩) (Kd.S_types HO390113.out BK390120.out (by decide)) (fun _ hk => hk.2) (.int .i64 t390115)) (fun _ hk => hk.2) (.int .i64 t390116)) (fun _ hk => hk.2) (.int .i64 t390117)) (fun _ hk => hk.2) (.int .i64 t390118)) (fun _ hk => hk.2) (.int .i64 t390119)) (fun _ h_ => h_.1))) hb); have n1_ := Aside0.mk (blk_below (g := gb390101) (o := .cells #[.int .i64 0, .int .i64 0, .int .i64 0, .int .i64 0, .int .i64 0] 46 (0, 0)) (by (with_reducible repeat (first | refine blk_drewN ?_ _ | refine blk_drew ?_ | refine blk_alloc ?_ _)); refine blk_far ?_ NB390101_390120.out _; (with_reducible repeat (first | refine blk_drewN ?_ _ | refine blk_drew ?_ | refine blk_alloc ?_ _)); refine blk_far ?_ NB390101_390120.out _; (with_reducible repeat (first | refine blk_drewN ?_ _ | refine blk_drew ?_ | refine blk_alloc ?_ _)); refine blk_far ?_ NB390101_390120.out _; (with_reducible repeat (first | refine blk_drewN ?_ _ | refine blk_drew ?_ | refine blk_alloc ?_ _)); refine blk_far ?_ NB390101_390120.out _; (with_reducible repeat (first | refine blk_drewN ?_ _ | refine blk_drew ?_ | refine blk_alloc ?_ _)); refine blk_far ?_ NB390101_390120.out _; (with_reducible repeat (first | refine blk_drewN ?_ _ | refine blk_drew ?_ | refine blk_alloc ?_ _)); exact BK390101.out) hb); have n2_ := Aside0.mk (blk_below (g := gb390120) (o := .cells #[.int .i64 t390115, .int .i64 t390116, .int .i64 t390117, .int .i64 t390118, .int .i64 t390119] 46 (0, 0)) (by (with_reducible repeat (first | refine blk_drewN ?_ _ | refine blk_drew ?_ | refine blk_alloc ?_ _)); refine blk_put (cs := #[.int .i64 t390115, .int .i64 t390116, .int .i64 t390117, .int .i64 t390118, .int .i64 0]) ?_ 4 _ rfl; (with_reducible repeat (first | refine blk_drewN ?_ _ | refine blk_drew ?_ | refine blk_alloc ?_ _)); refine blk_put (cs := #[.int .i64 t390115, .int .i64 t390116, .int .i64 t390117, .int .i64 0, .int .i64 0]) ?_ 3 _ rfl; (with_reducible repeat (first | refine blk_drewN ?_ _ | refine blk_drew ?_ | refine blk_alloc ?_ _)); refine blk_put (cs := #[.int .i64 t390115, .int .i64 t390116, .int .i64 0, .int .i64 0, .int .i64 0]) ?_ 2 _ rfl; (with_reducible repeat (first | refine blk_drewN ?_ _ | refine blk_drew ?_ | refine blk_alloc ?_ _)); refine blk_put (cs := #[.int .i64 t390115, .int .i64 0, .int .i64 0, .int .i64 0, .int .i64 0]) ?_ 1 _ rfl; (with_reducible repeat (first | refine blk_drewN ?_ _ | refine blk_drew ?_ | refine blk_alloc ?_ _)); refine blk_put (cs := #[.int .i64 0, .int .i64 0, .int .i64 0, .int .i64 0, .int .i64 0]) ?_ 0 _ rfl; (with_reducible repeat (first | refine blk_drewN ?_ _ | refine blk_drew ?_ | refine blk_alloc ?_ _)); exact BK390120.out) hb); have n3_ := Aside0.mk (below_step (by repeat (first | (with_reducible first | exact HB.out | apply below_alloc | apply pw_below_drewN | apply below_drew1 | refine below_set ?_ GE390101.out | refine below_set ?_ GE390120.out) | exact HB.out)) hb); clear HO390113; clear BK390101; clear BK390120; clear HB; have HO390113 := n0_; have BK390101 := n1_; have BK390120 := n2_; have HB := n3_; clear n0_ n1_ n2_ n3_; (try clear hb); (try clear hb2); (try clear hk); (try clear hi)))
          have n0_ := Aside0.mk (Kd.S_drew HO390113.out)
          have n1_ := Aside0.mk (blk_drew BK390101.out)
          have n2_ := Aside0.mk (blk_drew BK390120.out)
          have n3_ := Aside0.mk (below_drew1 HB.out)
          clear HO390113
          clear BK390101
          clear BK390120
          clear HB
          have HO390113 := n0_
          have BK390101 := n1_
          have BK390120 := n2_
          have HB := n3_
          clear n0_ n1_ n2_ n3_
          refine start_ (n := 6) (S := fun w' => w'.cell? ⟨gb390120, 0, none⟩ = some (.int .i64 t390115) ∧ w'.cell? ⟨gb390120, 1, none⟩ = some (.int .i64 t390116) ∧ w'.cell? ⟨gb390120, 2, none⟩ = some (.int .i64 t390117) ∧ w'.cell? ⟨gb390120, 3, none⟩ = some (.int .i64 t390118) ∧ w'.cell? ⟨gb390120, 4, none⟩ = some (.int .i64 t390119)) (ds := []) #[false, false, false, false, false, false] (by kernel_rfl) rfl rfl ⟨(blk_cell BK390120.out 0).trans rfl, (blk_cell BK390120.out 1).trans rfl, (blk_cell BK390120.out 2).trans rfl, (blk_cell BK390120.out 3).trans rfl, (blk_cell BK390120.out 4).trans rfl⟩ (fun hHeld => ?_)
          generalize w17.drew = w18 at HO390113 BK390101 BK390120 HB hHeld ⊢
          refine pure_ (i := 0) (N := some 28) (v := ?_) (a' := ?_) #[true, false, false, false, false, false] rfl rfl (by kernel_rfl) (fun _ _ _ h => h) (Or.inl ⟨by rfl, ?_⟩) ?_ ?_
          rotate_left
          · intro w'
            go_simp
            with_reducible rfl
          rotate_left
          · simp only [Act.put, List.setIfInBounds_toArray, List.set_cons_zero, List.set_cons_succ, i64_w, i32_w]
            rfl
          refine pure_ (i := 1) (N := some 29) (v := ?_) (a' := ?_) #[true, true, false, false, false, false] rfl rfl (by kernel_rfl) (fun _ _ _ h => h) (Or.inl ⟨by rfl, ?_⟩) ?_ ?_
          rotate_left
          · intro w'
            go_simp
            with_reducible rfl
          rotate_left
          · simp only [Act.put, List.setIfInBounds_toArray, List.set_cons_zero, List.set_cons_succ, i64_w, i32_w]
            rfl
          refine pure_ (i := 3) (N := some 2) (v := ?_) (a' := ?_) #[true, true, false, true, false, false] rfl rfl (by kernel_rfl) (fun _ _ _ h => h) (Or.inl ⟨by rfl, ?_⟩) ?_ ?_
          rotate_left
          · intro w'
            go_simp
            with_reducible rfl
          rotate_left
          · simp only [Act.put, List.setIfInBounds_toArray, List.set_cons_zero, List.set_cons_succ, i64_w, i32_w]
            rfl
          refine pure_ (i := 4) (N := some 3) (v := ?_) (a' := ?_) #[true, true, false, true, true, false] rfl rfl (by kernel_rfl) (fun _ _ _ h => h) (Or.inl ⟨by rfl, ?_⟩) ?_ ?_
          rotate_left
          · intro w'
            go_simp
            with_reducible rfl
          rotate_left
          · simp only [Act.put, List.setIfInBounds_toArray, List.set_cons_zero, List.set_cons_succ, i64_w, i32_w]
            rfl
          refine take_ (i := 2) (N := some 30) (v := ?_) (a' := ?_) #[true, true, true, true, true, false] rfl rfl (by kernel_rfl) (fun _ _ _ h => h) (Or.inl ⟨by rfl, ?_⟩) hHeld ?_ ?_
          rotate_left
          · rintro w' ⟨s0, s1, s2, s3, s4⟩
            go_simp
            with_reducible rfl
          rotate_left
          · simp only [Act.put, List.setIfInBounds_toArray, List.set_cons_zero, List.set_cons_succ, i64_w, i32_w]
            rfl
          refine one_ (i := 5) (N := none) #[true, true, true, true, true, true] rfl rfl (by kernel_rfl) (by decide) (fun K hK => ?_)
          have hs19 : w18.cell? ⟨gb390101, 0, none⟩ = some (.int .i64 0) := (blk_cell BK390101.out 0).trans rfl
          have hfs19 := blk_frozen BK390101.out 0
          have hns19_1 := NB390120_390101.out
          have hms19_1 := NB390101_390120.out
          have hs20 : w18.cell? ⟨gb390101, 1, none⟩ = some (.int .i64 0) := (blk_cell BK390101.out 1).trans rfl
          have hfs20 := blk_frozen BK390101.out 1
          have hns20_1 := NB390120_390101.out
          have hms20_1 := NB390101_390120.out
          have hs21 : w18.cell? ⟨gb390101, 2, none⟩ = some (.int .i64 0) := (blk_cell BK390101.out 2).trans rfl
          have hfs21 := blk_frozen BK390101.out 2
          have hns21_1 := NB390120_390101.out
          have hms21_1 := NB390101_390120.out
          have hs22 : w18.cell? ⟨gb390101, 3, none⟩ = some (.int .i64 0) := (blk_cell BK390101.out 3).trans rfl
          have hfs22 := blk_frozen BK390101.out 3
          have hns22_1 := NB390120_390101.out
          have hms22_1 := NB390101_390120.out
          have hs23 : w18.cell? ⟨gb390101, 4, none⟩ = some (.int .i64 0) := (blk_cell BK390101.out 4).trans rfl
          have hfs23 := blk_frozen BK390101.out 4
          have hns23_1 := NB390120_390101.out
          have hms23_1 := NB390101_390120.out
          refine skip_ (w1 := ?_) (by rfl) rfl ?_ ?_
          rotate_left
          · go_simp
            rfl
          refine hK.out _ _ ⟨((cell_far (p := ⟨gb390101, _, none⟩) NB390120_390101.out _).trans (((cell_far (p := ⟨gb390101, _, none⟩) NB390120_390101.out _).trans (((cell_far (p := ⟨gb390101, _, none⟩) NB390120_390101.out _).trans (((cell_far (p := ⟨gb390101, _, none⟩) NB390120_390101.out _).trans (((cell_far (p := ⟨gb390101, _, none⟩) NB390120_390101.out _).trans (hHeld.1)))))))))), ((cell_far (p := ⟨gb390101, _, none⟩) NB390120_390101.out _).trans (((cell_far (p := ⟨gb390101, _, none⟩) NB390120_390101.out _).trans (((cell_far (p := ⟨gb390101, _, none⟩) NB390120_390101.out _).trans (((cell_far (p := ⟨gb390101, _, none⟩) NB390120_390101.out _).trans (((cell_far (p := ⟨gb390101, _, none⟩) NB390120_390101.out _).trans (hHeld.2.1)))))))))), ((cell_far (p := ⟨gb390101, _, none⟩) NB390120_390101.out _).trans (((cell_far (p := ⟨gb390101, _, none⟩) NB390120_390101.out _).trans (((cell_far (p := ⟨gb390101, _, none⟩) NB390120_390101.out _).trans (((cell_far (p := ⟨gb390101, _, none⟩) NB390120_390101.out _).trans (((cell_far (p := ⟨gb390101, _, none⟩) NB390120_390101.out _).trans (hHeld.2.2.1)))))))))), ((cell_far (p := ⟨gb390101, _, none⟩) NB390120_390101.out _).trans (((cell_far (p := ⟨gb390101, _, none⟩) NB390120_390101.out _).trans (((cell_far (p := ⟨gb390101, _, none⟩) NB390120_390101.out _).trans (((cell_far (p := ⟨gb390101, _, none⟩) NB390120_390101.out _).trans (((cell_far (p := ⟨gb390101, _, none⟩) NB390120_390101.out _).trans (hHeld.2.2.2.1)))))))))), ((cell_far (p := ⟨gb390101, _, none⟩) NB390120_390101.out _).trans (((cell_far (p := ⟨gb390101, _, none⟩) NB390120_390101.out _).trans (((cell_far (p := ⟨gb390101, _, none⟩) NB390120_390101.out _).trans (((cell_far (p := ⟨gb390101, _, none⟩) NB390120_390101.out _).trans (((cell_far (p := ⟨gb390101, _, none⟩) NB390120_390101.out _).trans (hHeld.2.2.2.2))))))))))⟩ (fun hHeld => ?_)
          clear hK K
          refine done_ (by kernel_rfl) ?_
          try go_wp2
          refine bodyPost_ret (results_list (rs := [.tmp 2, .tmp 3, .cell 4 46]) rfl (by simp) (.tmp (.tmp (.cell gb390101 46 #[.int .i64 t390115, .int .i64 t390116, .int .i64 t390117, .int .i64 t390118, .int .i64 t390119] (0, 0) _ rfl (by (with_reducible repeat (first | refine blk_drewN ?_ _ | refine blk_drew ?_ | refine blk_alloc ?_ _)); refine blk_put (cs := #[.int .i64 t390115, .int .i64 t390116, .int .i64 t390117, .int .i64 t390118, .int .i64 0]) ?_ 4 _ rfl; (with_reducible repeat (first | refine blk_drewN ?_ _ | refine blk_drew ?_ | refine blk_alloc ?_ _)); refine blk_put (cs := #[.int .i64 t390115, .int .i64 t390116, .int .i64 t390117, .int .i64 0, .int .i64 0]) ?_ 3 _ rfl; (with_reducible repeat (first | refine blk_drewN ?_ _ | refine blk_drew ?_ | refine blk_alloc ?_ _)); refine blk_put (cs := #[.int .i64 t390115, .int .i64 t390116, .int .i64 0, .int .i64 0, .int .i64 0]) ?_ 2 _ rfl; (with_reducible repeat (first | refine blk_drewN ?_ _ | refine blk_drew ?_ | refine blk_alloc ?_ _)); refine blk_put (cs := #[.int .i64 t390115, .int .i64 0, .int .i64 0, .int .i64 0, .int .i64 0]) ?_ 1 _ rfl; (with_reducible repeat (first | refine blk_drewN ?_ _ | refine blk_drew ?_ | refine blk_alloc ?_ _)); refine blk_put (cs := #[.int .i64 0, .int .i64 0, .int .i64 0, .int .i64 0, .int .i64 0]) ?_ 0 _ rfl; (with_reducible repeat (first | refine blk_drewN ?_ _ | refine blk_drew ?_ | refine blk_alloc ?_ _)); exact BK390101.out) Tryz.underlying46 rfl (by kernel_rfl) .nil)))) rfl ?_
          exact ⟨_, by first | rfl | (simp [errW_none, errW_some] <;> rfl) | (simp [*, errW_none, errW_some] <;> rfl), by (with_reducible repeat (first | apply Kd.S_alloc | apply Kd.S_drewN | apply Kd.S_drew)); exact Kd.S_mono (Kd.S_far (p := ⟨gb390101, 4, none⟩) (Kd.S_far (p := ⟨gb390101, 3, none⟩) (Kd.S_far (p := ⟨gb390101, 2, none⟩) (Kd.S_far (p := ⟨gb390101, 1, none⟩) (Kd.S_far (p := ⟨gb390101, 0, none⟩) (Kd.S_types HO390113.out BK390101.out (by decide)) (fun _ hk => hk.2) (.int .i64 t390115)) (fun _ hk => hk.2) (.int .i64 t390116)) (fun _ hk => hk.2) (.int .i64 t390117)) (fun _ hk => hk.2) (.int .i64 t390118)) (fun _ hk => hk.2) (.int .i64 t390119)) (fun _ hk => trivial), by repeat (first | (with_reducible first | exact HB.out | apply below_alloc | apply pw_below_drewN | apply below_drew1 | refine below_set ?_ GE390101.out | refine below_set ?_ GE390120.out) | exact HB.out)⟩
        · replace c11 := Bool.eq_false_iff.mpr c11
          subst c11
          have H1 : (if 0 ≤ t390114 then (if t390114 ≤ (t390111.length : Int) then ((larderref04_placed.f k a0 20 262144).bind fun bt390125 => (some ((t390111.take (t390114 : Int).toNat), t390114, bt390125.1, bt390125.2.1, bt390125.2.2.1, bt390125.2.2.2.1, bt390125.2.2.2.2))) else (none)) else (none)) = some (r1, r2, r3, r4, r5, r6, r7) := by rw [if_neg (show ¬ (false = true) by decide)] at H; exact H
          clear H
          have H := H1
          clear H1
          by_cases c24 : 0 ≤ t390114
          · rw [if_pos c24] at H
            have c24b0 := eq_true c24
            have c24b1 : decide (0 ≤ t390114) = true := decide_eq_true c24
            clear c24
            by_cases c25 : t390114 ≤ (t390111.length : Int)
            · rw [if_pos c25] at H
              have c25b0 := eq_true c25
              have c25b1 : decide (t390114 ≤ (t390111.length : Int)) = true := decide_eq_true c25
              clear c25
              obtain ⟨y390122, hy390122⟩ : ∃ y_ : List (List ByteArray), y_ = (t390111.take (t390114 : Int).toNat) := ⟨_, rfl⟩
              replace H : ((larderref04_placed.f k a0 20 262144).bind fun bt390125 => (some (y390122, t390114, bt390125.1, bt390125.2.1, bt390125.2.2.1, bt390125.2.2.2.1, bt390125.2.2.2.2))) = some (r1, r2, r3, r4, r5, r6, r7) := by first | (rw [hy390122]; with_reducible exact H) | (have H2_ := (Option.bind_some _ _).symm.trans H; rw [hy390122]; with_reducible exact H2_) | (have H2_ := (Option.bind_some _ _).symm.trans H; with_reducible exact H2_) | with_reducible exact H | (rw [hy390122]; exact H) | exact H
              have Ny390122 := Aside0.mk hy390122
              clear hy390122
              replace H := Option.bind_eq_some_iff.mp H
              obtain ⟨⟨t390125, t390126, t390127, t390128, t390129⟩, A260, H⟩ := H
              replace H : (some (y390122, t390114, t390125, t390126, t390127, t390128, t390129)) = some (r1, r2, r3, r4, r5, r6, r7) := H
              have A26 := Aside0.mk A260
              clear A260
              simp only [Option.some.injEq, Prod.mk.injEq] at H
              obtain ⟨rfl, rfl, rfl, rfl, rfl, rfl, rfl⟩ := H
              go_enter Tryz.func39, Tryz.ntmps39
              try go_wp2_with (first | ((with_reducible refine gate_dst (N := 4) rfl ?_); refine box_event ?hg (N := 4) ?hd (cs := #[.int .i64 0, .int .i64 0, .int .i64 0, .int .i64 0, .int .i64 0]) (t := 46) ?hr ?_; (case hd => rfl); (case hg => rfl); (case hr => first | (go_simp; done) | (go_simp; rfl)); intro gb390101 hg w27 hbox hb; have n0_ := Aside0.mk (below_step (by repeat (first | (with_reducible first | exact HB.out | apply below_alloc | apply pw_below_drewN | apply below_drew1) | exact HB.out)) hb); have n1_ := Aside0.mk (hbox); have n2_ := Aside0.mk ((by rw [hg]; exact (below_size (by repeat (first | (with_reducible first | exact HB.out | apply below_alloc | apply pw_below_drewN | apply below_drew1) | exact HB.out))) : w.heap.size ≤ gb390101)); have n3_ := Aside0.mk ((by rw [hg]; exact (below_size (by repeat (first | (with_reducible first | exact HB.out | apply below_alloc | apply pw_below_drewN | apply below_drew1) | exact HB.out))) : w.heap.size ≤ gb390101)); clear HB; have HB := n0_; have BK390101 := n1_; have GW390101 := n2_; have GE390101 := n3_; clear n0_ n1_ n2_ n3_; clear hb hbox hg) | ((with_reducible refine gate_callee (f := 70) rfl ?_); refine goesL_ (some 21) rfl rfl Tryz.func70 (by kernel_rfl) rfl #[.string (a0.extract 0 262144)] rfl (by (try simp only [List.map_toArray, List.map_cons, List.map_nil]); first | done | rfl | (simp only [List.length_drop, List.length_take]; rfl)) ?_; (with_reducible refine (larderref04_read.calls k (a0.extract 0 262144) t390111 t390114 t390115 t390116 t390117 t390118 t390119 _ A9.out).mono ?_); rintro e w28 ⟨v390112, rfl, ho0, hb⟩; refine ⟨_, rfl, ?_⟩; have n0_ := Aside0.mk (Kd.S_lower ho0 (below_size (by repeat (first | (with_reducible first | exact HB.out | apply below_alloc | apply pw_below_drewN | apply below_drew1 | refine below_set ?_ GE390101.out) | exact HB.out)))); have n1_ := Aside0.mk (blk_below (g := gb390101) (o := .cells #[.int .i64 0, .int .i64 0, .int .i64 0, .int .i64 0, .int .i64 0] 46 (0, 0)) (by (with_reducible repeat (first | refine blk_drewN ?_ _ | refine blk_drew ?_ | refine blk_alloc ?_ _)); exact BK390101.out) hb); have n2_ := Aside0.mk (below_step (by repeat (first | (with_reducible first | exact HB.out | apply below_alloc | apply pw_below_drewN | apply below_drew1 | refine below_set ?_ GE390101.out) | exact HB.out)) hb); clear BK390101; clear HB; have HO390113 := n0_; have BK390101 := n1_; have HB := n2_; clear n0_ n1_ n2_; (try clear hb); (try clear hb2); (try clear hk); (try clear hi); (try clear ho0)) | ((with_reducible refine gate_dst (N := 8) rfl ?_); refine box_event ?hg (N := 8) ?hd (cs := #[.int .i64 0, .int .i64 0, .int .i64 0, .int .i64 0, .int .i64 0]) (t := 46) ?hr ?_; (case hd => rfl); (case hg => rfl); (case hr => first | (go_simp; done) | (go_simp; rfl)); intro gb390120 hg w29 hbox hb; have n0_ := Aside0.mk (Kd.S_below (by (with_reducible repeat (first | apply Kd.S_alloc | apply Kd.S_drewN | apply Kd.S_drew)); exact HO390113.out) hb); have n1_ := Aside0.mk (blk_below (g := gb390101) (o := .cells #[.int .i64 0, .int .i64 0, .int .i64 0, .int .i64 0, .int .i64 0] 46 (0, 0)) (by (with_reducible repeat (first | refine blk_drewN ?_ _ | refine blk_drew ?_ | refine blk_alloc ?_ _)); exact BK390101.out) hb); have n2_ := Aside0.mk (below_step (by repeat (first | (with_reducible first | exact HB.out | apply below_alloc | apply pw_below_drewN | apply below_drew1 | refine below_set ?_ GE390101.out) | exact HB.out)) hb); have n3_ := Aside0.mk (hbox); have n4_ := Aside0.mk ((by rw [hg]; exact (below_size (by repeat (first | (with_reducible first | exact HB.out | apply below_alloc | apply pw_below_drewN | apply below_drew1 | refine below_set ?_ GE390101.out) | exact HB.out))) : w.heap.size ≤ gb390120)); have n5_ := Aside0.mk ((by rw [hg]; exact (below_size (by repeat (first | (with_reducible first | exact HB.out | apply below_alloc | apply pw_below_drewN | apply below_drew1 | refine below_set ?_ GE390101.out) | exact HB.out))) : w.heap.size ≤ gb390120)); have n6_ := Aside0.mk ((by rw [hg]; exact Nat.ne_of_lt (blk_lt (g := gb390101) (o := .cells #[.int .i64 0, .int .i64 0, .int .i64 0, .int .i64 0, .int .i64 0] 46 (0, 0)) (by (with_reducible repeat (first | refine blk_drewN ?_ _ | refine blk_drew ?_ | refine blk_alloc ?_ _)); exact BK390101.out)) : gb390101 ≠ gb390120)); have n7_ := Aside0.mk ((by rw [hg]; exact Nat.ne_of_gt (blk_lt (g := gb390101) (o := .cells #[.int .i64 0, .int .i64 0, .int .i64 0, .int .i64 0, .int .i64 0] 46 (0, 0)) (by (with_reducible repeat (first | refine blk_drewN ?_ _ | refine blk_drew ?_ | refine blk_alloc ?_ _)); exact BK390101.out)) : gb390120 ≠ gb390101)); clear HO390113; clear BK390101; clear HB; have HO390113 := n0_; have BK390101 := n1_; have HB := n2_; have BK390120 := n3_; have GW390120 := n4_; have GE390120 := n5_; have NB390101_390120 := n6_; have NB390120_390101 := n7_; clear n0_ n1_ n2_ n3_ n4_ n5_ n6_ n7_; clear hb hbox hg; have hnb30 := NB390120_390101.out; have hnc30 := NB390101_390120.out; have hcz31_0 : w29.cell? ⟨gb390120, 0, none⟩ = some (.int .i64 0) := (blk_cell BK390120.out 0).trans rfl; have hcz31_1 : w29.cell? ⟨gb390120, 1, none⟩ = some (.int .i64 0) := (blk_cell BK390120.out 1).trans rfl; have hcz31_2 : w29.cell? ⟨gb390120, 2, none⟩ = some (.int .i64 0) := (blk_cell BK390120.out 2).trans rfl; have hcz31_3 : w29.cell? ⟨gb390120, 3, none⟩ = some (.int .i64 0) := (blk_cell BK390120.out 3).trans rfl; have hcz31_4 : w29.cell? ⟨gb390120, 4, none⟩ = some (.int .i64 0) := (blk_cell BK390120.out 4).trans rfl; have hfz31_0 := blk_frozen BK390120.out 0; have hfz31_1 := blk_frozen BK390120.out 1; have hfz31_2 := blk_frozen BK390120.out 2; have hfz31_3 := blk_frozen BK390120.out 3; have hfz31_4 := blk_frozen BK390120.out 4) | ((with_reducible refine gate_callee (f := 46) rfl ?_); refine goesL_ (some 27) rfl rfl Tryz.func46 (by kernel_rfl) rfl #[.string (a0.extract 0 262144), .agg #[.int .i64 t390115, .int .i64 t390116, .int .i64 t390117, .int .i64 t390118, .int .i64 t390119]] rfl (by (try simp only [List.map_toArray, List.map_cons, List.map_nil]); first | done | rfl | (simp only [List.length_drop, List.length_take]; rfl)) ?_; (with_reducible refine (larderref04_shows.calls k (a0.extract 0 262144) t390115 t390116 t390117 t390118 t390119 false _ A10.out).mono ?_); rintro e w32 ⟨rfl, hb⟩; refine ⟨_, rfl, ?_⟩; have n0_ := Aside0.mk (Kd.S_below (by (with_reducible repeat (first | apply Kd.S_alloc | apply Kd.S_drewN | apply Kd.S_drew)); exact (Kd.S_mono (Kd.S_far (p := ⟨gb390120, 4, none⟩) (Kd.S_far (p := ⟨gb390120, 3, none⟩) (Kd.S_far (p := ⟨gb390120, 2, none⟩) (Kd.S_far (p := ⟨gb390120, 1, none⟩) (Kd.S_far (p := ⟨gb390120, 0, none⟩) (Kd.S_types HO390113.out BK390120.out (by decide)) (fun _ hk => hk.2) (.int .i64 t390115)) (fun _ hk => hk.2) (.int .i64 t390116)) (fun _ hk => hk.2) (.int .i64 t390117)) (fun _ hk => hk.2) (.int .i64 t390118)) (fun _ hk => hk.2) (.int .i64 t390119)) (fun _ h_ => h_.1))) hb); have n1_ := Aside0.mk (blk_below (g := gb390101) (o := .cells #[.int .i64 0, .int .i64 0, .int .i64 0, .int .i64 0, .int .i64 0] 46 (0, 0)) (by (with_reducible repeat (first | refine blk_drewN ?_ _ | refine blk_drew ?_ | refine blk_alloc ?_ _)); refine blk_far ?_ NB390101_390120.out _; (with_reducible repeat (first | refine blk_drewN ?_ _ | refine blk_drew ?_ | refine blk_alloc ?_ _)); refine blk_far ?_ NB390101_390120.out _; (with_reducible repeat (first | refine blk_drewN ?_ _ | refine blk_drew ?_ | refine blk_alloc ?_ _)); refine blk_far ?_ NB390101_390120.out _; (with_reducible repeat (first | refine blk_drewN ?_ _ | refine blk_drew ?_ | refine blk_alloc ?_ _)); refine blk_far ?_ NB390101_390120.out _; (with_reducible repeat (first | refine blk_drewN ?_ _ | refine blk_drew ?_ | refine blk_alloc ?_ _)); refine blk_far ?_ NB390101_390120.out _; (with_reducible repeat (first | refine blk_drewN ?_ _ | refine blk_drew ?_ | refine blk_alloc ?_ _)); exact BK390101.out) hb); have n2_ := Aside0.mk (blk_below (g := gb390120) (o := .cells #[.int .i64 t390115, .int .i64 t390116, .int .i64 t390117, .int .i64 t390118, .int .i64 t390119] 46 (0, 0)) (by (with_reducible repeat (first | refine blk_drewN ?_ _ | refine blk_drew ?_ | refine blk_alloc ?_ _)); refine blk_put (cs := #[.int .i64 t390115, .int .i64 t390116, .int .i64 t390117, .int .i64 t390118, .int .i64 0]) ?_ 4 _ rfl; (with_reducible repeat (first | refine blk_drewN ?_ _ | refine blk_drew ?_ | refine blk_alloc ?_ _)); refine blk_put (cs := #[.int .i64 t390115, .int .i64 t390116, .int .i64 t390117, .int .i64 0, .int .i64 0]) ?_ 3 _ rfl; (with_reducible repeat (first | refine blk_drewN ?_ _ | refine blk_drew ?_ | refine blk_alloc ?_ _)); refine blk_put (cs := #[.int .i64 t390115, .int .i64 t390116, .int .i64 0, .int .i64 0, .int .i64 0]) ?_ 2 _ rfl; (with_reducible repeat (first | refine blk_drewN ?_ _ | refine blk_drew ?_ | refine blk_alloc ?_ _)); refine blk_put (cs := #[.int .i64 t390115, .int .i64 0, .int .i64 0, .int .i64 0, .int .i64 0]) ?_ 1 _ rfl; (with_reducible repeat (first | refine blk_drewN ?_ _ | refine blk_drew ?_ | refine blk_alloc ?_ _)); refine blk_put (cs := #[.int .i64 0, .int .i64 0, .int .i64 0, .int .i64 0, .int .i64 0]) ?_ 0 _ rfl; (with_reducible repeat (first | refine blk_drewN ?_ _ | refine blk_drew ?_ | refine blk_alloc ?_ _)); exact BK390120.out) hb); have n3_ := Aside0.mk (below_step (by repeat (first | (with_reducible first | exact HB.out | apply below_alloc | apply pw_below_drewN | apply below_drew1 | refine below_set ?_ GE390101.out | refine below_set ?_ GE390120.out) | exact HB.out)) hb); clear HO390113; clear BK390101; clear BK390120; clear HB; have HO390113 := n0_; have BK390101 := n1_; have BK390120 := n2_; have HB := n3_; clear n0_ n1_ n2_ n3_; (try clear hb); (try clear hb2); (try clear hk); (try clear hi)))
              have n0_ := Aside0.mk (Kd.S_drew HO390113.out)
              have n1_ := Aside0.mk (blk_drew BK390101.out)
              have n2_ := Aside0.mk (blk_drew BK390120.out)
              have n3_ := Aside0.mk (below_drew1 HB.out)
              clear HO390113
              clear BK390101
              clear BK390120
              clear HB
              have HO390113 := n0_
              have BK390101 := n1_
              have BK390120 := n2_
              have HB := n3_
              clear n0_ n1_ n2_ n3_
              obtain ⟨Ao34, co34, eo34⟩ := Kd.S_slice HO390113.out
              (first | subst eo34 | (injection eo34 with f1_ f2_ f3_; have f4_ := f1_.symm; have f5_ := f3_.symm; clear f1_ f2_ f3_; subst f4_; subst f5_))
              have q35 : (t390114 : Int) ≤ ((t390111.length : Int) : Int) := of_decide_eq_true (by first | (with_reducible assumption) | assumption)
              obtain ⟨i035, hi035, _, hsz35, _⟩ := info_parts info28
              have hcut35 := cut_to (P := Tryz.prog) 30 28 .i64 Tryz.underlying30 hi035 Ao34 t390111.length co34 t390114 (of_decide_eq_true (by first | (with_reducible assumption) | assumption)) q35 (Kd.S_reads' HO390113.out).2.1
              have hr35 := Kd.S_take (m := (t390114 : Int).toNat) HO390113.out (by omega)
              have hy35 : y390122.length = (t390114 : Int).toNat := (by rw [Ny390122.out, List.length_take]; omega)
              rw [← Ny390122.out] at hr35
              rw [← hy35] at hr35 hcut35
              clear hy35 hi035 hsz35 HO390113
              have HO390124 := Aside0.mk hr35
              clear hr35
              replace q35 := eq_true q35
              refine start_ (n := 9) (S := fun w' => True) (ds := []) #[false, false, false, false, false, false, false, false, false] (by kernel_rfl) rfl rfl trivial (fun hHeld => ?_); refine with_tabW larderref04_Read.tab7 larderref04_Read.bits7 (fun HT_ HW_ => ?_)
              generalize w32.drew = w33 at BK390101 BK390120 HB HO390124 hHeld ⊢
              refine pure_ (i := 0) (N := some 31) (v := ?_) (a' := ?_) #[true, false, false, false, false, false, false, false, false] rfl rfl (any_of HT_.out (by kernel_rfl)) (fun _ _ _ h => h) (Or.inl ⟨by rfl, ?_⟩) ?_ ?_
              rotate_left
              · intro w'
                go_simp
                with_reducible rfl
              rotate_left
              · simp only [Act.put, List.setIfInBounds_toArray, List.set_cons_zero, List.set_cons_succ, i64_w, i32_w]
                rfl
              refine pure_ (i := 1) (N := some 32) (v := ?_) (a' := ?_) #[true, true, false, false, false, false, false, false, false] rfl rfl (any_of HT_.out (by kernel_rfl)) (fun _ _ _ h => h) (Or.inl ⟨by rfl, ?_⟩) ?_ ?_
              rotate_left
              · intro w'
                go_simp
                with_reducible rfl
              rotate_left
              · simp only [Act.put, List.setIfInBounds_toArray, List.set_cons_zero, List.set_cons_succ, i64_w, i32_w]
                rfl
              refine pure_ (i := 2) (N := some 33) (v := ?_) (a' := ?_) #[true, true, true, false, false, false, false, false, false] rfl rfl (any_of HT_.out (by kernel_rfl)) (fun _ _ _ h => h) (Or.inl ⟨by rfl, ?_⟩) ?_ ?_
              rotate_left
              · intro w'
                go_simp
                with_reducible rfl
              rotate_left
              · simp only [Act.put, List.setIfInBounds_toArray, List.set_cons_zero, List.set_cons_succ, i64_w, i32_w]
                rfl
              refine pure_ (i := 3) (N := some 34) (v := ?_) (a' := ?_) #[true, true, true, true, false, false, false, false, false] rfl rfl (any_of HT_.out (by kernel_rfl)) (fun _ _ _ h => h) (Or.inl ⟨by rfl, ?_⟩) ?_ ?_
              rotate_left
              · intro w'
                go_simp
                with_reducible rfl
              rotate_left
              · simp only [Act.put, List.setIfInBounds_toArray, List.set_cons_zero, List.set_cons_succ, i64_w, i32_w]
                rfl
              refine pure_ (i := 4) (N := some 35) (v := ?_) (a' := ?_) #[true, true, true, true, true, false, false, false, false] rfl rfl (any_of HT_.out (by kernel_rfl)) (fun _ _ _ h => h) (Or.inl ⟨by rfl, ?_⟩) ?_ ?_
              rotate_left
              · intro w'
                go_simp
                with_reducible rfl
              rotate_left
              · simp only [Act.put, List.setIfInBounds_toArray, List.set_cons_zero, List.set_cons_succ, i64_w, i32_w]
                rfl
              refine one_ (i := 5) (N := some 36) #[true, true, true, true, true, true, false, false, false] rfl rfl (one_of HT_.out (by kernel_rfl)) (by decide) (fun K hK => ?_)
              refine goes_ Tryz.func71 (by kernel_rfl) rfl #[.string a0, .int .i64 20, .int .i64 262144] (by rfl) rfl rfl (by (try simp only [List.map_toArray, List.map_cons, List.map_nil]); first | done | rfl | (simp only [List.length_drop, List.length_take]; rfl)) ?_
              with_reducible refine (larderref04_placed.calls k a0 20 262144 t390125 t390126 t390127 t390128 t390129 _ A26.out).mono ?_
              rintro e w36 ⟨rfl, hb⟩
              refine ⟨_, rfl, ?_⟩
              have n0_ := Aside0.mk (Kd.S_below (by (with_reducible repeat (first | apply Kd.S_alloc | apply Kd.S_drewN | apply Kd.S_drew)); exact HO390124.out) hb)
              have n1_ := Aside0.mk (blk_below (g := gb390101) (o := .cells #[.int .i64 0, .int .i64 0, .int .i64 0, .int .i64 0, .int .i64 0] 46 (0, 0)) (by (with_reducible repeat (first | refine blk_drewN ?_ _ | refine blk_drew ?_ | refine blk_alloc ?_ _)); exact BK390101.out) hb)
              have n2_ := Aside0.mk (blk_below (g := gb390120) (o := .cells #[.int .i64 t390115, .int .i64 t390116, .int .i64 t390117, .int .i64 t390118, .int .i64 t390119] 46 (0, 0)) (by (with_reducible repeat (first | refine blk_drewN ?_ _ | refine blk_drew ?_ | refine blk_alloc ?_ _)); exact BK390120.out) hb)
              have n3_ := Aside0.mk (below_step (by repeat (first | (with_reducible first | exact HB.out | apply below_alloc | apply pw_below_drewN | apply below_drew1 | refine below_set ?_ GE390101.out | refine below_set ?_ GE390120.out) | exact HB.out)) hb)
              clear HO390124
              clear BK390101
              clear BK390120
              clear HB
              have HO390124 := n0_
              have BK390101 := n1_
              have BK390120 := n2_
              have HB := n3_
              clear n0_ n1_ n2_ n3_
              (try clear hb)
              (try clear hb2)
              (try clear hk)
              (try clear hi)
              refine hK.out _ _ trivial (fun hHeld => ?_)
              clear hK K
              refine norm_ (a' := ?_) ?_ ?_
              rotate_left
              · show Act.put _ (some 36) _ = _
                simp only [Act.put, List.setIfInBounds_toArray, List.set_cons_zero, List.set_cons_succ, i64_w, i32_w]
                rfl
              refine pure_ (i := 6) (N := some 2) (v := ?_) (a' := ?_) #[true, true, true, true, true, true, true, false, false] rfl rfl (any_of HT_.out (by kernel_rfl)) (fun _ _ _ h => h) (Or.inl ⟨by rfl, ?_⟩) ?_ ?_
              rotate_left
              · intro w'
                go_simp
                with_reducible rfl
              rotate_left
              · simp only [Act.put, List.setIfInBounds_toArray, List.set_cons_zero, List.set_cons_succ, i64_w, i32_w]
                rfl
              refine pure_ (i := 7) (N := some 3) (v := ?_) (a' := ?_) #[true, true, true, true, true, true, true, true, false] rfl rfl (any_of HT_.out (by kernel_rfl)) (fun _ _ _ h => h) (Or.inl ⟨by rfl, ?_⟩) ?_ ?_
              rotate_left
              · intro w'
                go_simp
                with_reducible rfl
              rotate_left
              · simp only [Act.put, List.setIfInBounds_toArray, List.set_cons_zero, List.set_cons_succ, i64_w, i32_w]
                rfl
              refine one_ (i := 8) (N := none) #[true, true, true, true, true, true, true, true, true] rfl rfl (one_of HT_.out (by kernel_rfl)) (by decide) (fun K hK => ?_)
              have hs37 : w36.cell? ⟨gb390101, 0, none⟩ = some (.int .i64 0) := (blk_cell BK390101.out 0).trans rfl
              have hfs37 := blk_frozen BK390101.out 0
              have hns37_1 := NB390120_390101.out
              have hms37_1 := NB390101_390120.out
              have hs38 : w36.cell? ⟨gb390101, 1, none⟩ = some (.int .i64 0) := (blk_cell BK390101.out 1).trans rfl
              have hfs38 := blk_frozen BK390101.out 1
              have hns38_1 := NB390120_390101.out
              have hms38_1 := NB390101_390120.out
              have hs39 : w36.cell? ⟨gb390101, 2, none⟩ = some (.int .i64 0) := (blk_cell BK390101.out 2).trans rfl
              have hfs39 := blk_frozen BK390101.out 2
              have hns39_1 := NB390120_390101.out
              have hms39_1 := NB390101_390120.out
              have hs40 : w36.cell? ⟨gb390101, 3, none⟩ = some (.int .i64 0) := (blk_cell BK390101.out 3).trans rfl
              have hfs40 := blk_frozen BK390101.out 3
              have hns40_1 := NB390120_390101.out
              have hms40_1 := NB390101_390120.out
              have hs41 : w36.cell? ⟨gb390101, 4, none⟩ = some (.int .i64 0) := (blk_cell BK390101.out 4).trans rfl
              have hfs41 := blk_frozen BK390101.out 4
              have hns41_1 := NB390120_390101.out
              have hms41_1 := NB390101_390120.out
              refine skip_ (w1 := ?_) (by rfl) rfl ?_ ?_
              rotate_left
              · go_simp
                rfl
              refine hK.out _ _ trivial (fun hHeld => ?_)
              clear hK K
              refine done_ (done_of HT_.out (by kernel_rfl)) ?_
              try go_wp2
              refine bodyPost_ret (results_list (rs := [.tmp 2, .tmp 3, .cell 4 46]) rfl (by simp) (.tmp (.tmp (.cell gb390101 46 #[.int .i64 t390125, .int .i64 t390126, .int .i64 t390127, .int .i64 t390128, .int .i64 t390129] (0, 0) _ rfl (by (with_reducible repeat (first | refine blk_drewN ?_ _ | refine blk_drew ?_ | refine blk_alloc ?_ _)); refine blk_put (cs := #[.int .i64 t390125, .int .i64 t390126, .int .i64 t390127, .int .i64 t390128, .int .i64 0]) ?_ 4 _ rfl; (with_reducible repeat (first | refine blk_drewN ?_ _ | refine blk_drew ?_ | refine blk_alloc ?_ _)); refine blk_put (cs := #[.int .i64 t390125, .int .i64 t390126, .int .i64 t390127, .int .i64 0, .int .i64 0]) ?_ 3 _ rfl; (with_reducible repeat (first | refine blk_drewN ?_ _ | refine blk_drew ?_ | refine blk_alloc ?_ _)); refine blk_put (cs := #[.int .i64 t390125, .int .i64 t390126, .int .i64 0, .int .i64 0, .int .i64 0]) ?_ 2 _ rfl; (with_reducible repeat (first | refine blk_drewN ?_ _ | refine blk_drew ?_ | refine blk_alloc ?_ _)); refine blk_put (cs := #[.int .i64 t390125, .int .i64 0, .int .i64 0, .int .i64 0, .int .i64 0]) ?_ 1 _ rfl; (with_reducible repeat (first | refine blk_drewN ?_ _ | refine blk_drew ?_ | refine blk_alloc ?_ _)); refine blk_put (cs := #[.int .i64 0, .int .i64 0, .int .i64 0, .int .i64 0, .int .i64 0]) ?_ 0 _ rfl; (with_reducible repeat (first | refine blk_drewN ?_ _ | refine blk_drew ?_ | refine blk_alloc ?_ _)); exact BK390101.out) Tryz.underlying46 rfl (by kernel_rfl) .nil)))) rfl ?_
              exact ⟨_, by first | rfl | (simp [errW_none, errW_some] <;> rfl) | (simp [*, errW_none, errW_some] <;> rfl), by (with_reducible repeat (first | apply Kd.S_alloc | apply Kd.S_drewN | apply Kd.S_drew)); exact Kd.S_mono (Kd.S_far (p := ⟨gb390101, 4, none⟩) (Kd.S_far (p := ⟨gb390101, 3, none⟩) (Kd.S_far (p := ⟨gb390101, 2, none⟩) (Kd.S_far (p := ⟨gb390101, 1, none⟩) (Kd.S_far (p := ⟨gb390101, 0, none⟩) (Kd.S_types HO390124.out BK390101.out (by decide)) (fun _ hk => hk.2) (.int .i64 t390125)) (fun _ hk => hk.2) (.int .i64 t390126)) (fun _ hk => hk.2) (.int .i64 t390127)) (fun _ hk => hk.2) (.int .i64 t390128)) (fun _ hk => hk.2) (.int .i64 t390129)) (fun _ hk => trivial), by repeat (first | (with_reducible first | exact HB.out | apply below_alloc | apply pw_below_drewN | apply below_drew1 | refine below_set ?_ GE390101.out | refine below_set ?_ GE390120.out) | exact HB.out)⟩
            · rw [if_neg c25] at H
              exact absurd H (by simp)
          · rw [if_neg c24] at H
            exact absurd H (by simp)
      · rw [if_neg c8] at H
        exact absurd H (by simp)
    · rw [if_neg c7] at H
      exact absurd H (by simp)

end Go.Proofs.YtappphffbnkloaaGreatDoor.GS
