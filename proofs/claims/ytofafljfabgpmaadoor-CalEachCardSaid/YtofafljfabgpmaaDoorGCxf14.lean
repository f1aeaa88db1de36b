-- written by a program (gp.py over the kit's print) for this claim
import Derived.Test.YtofafljfabgpmaaDoorGCx0
import Derived.Test.YtofafljfabgpmaaDoorGCxf18
import Derived.Test.YtofafljfabgpmaaDoorGCxf34
namespace Go.Proofs.YtofafljfabgpmaaDoor.GC
open Go.RowKit Go.Proofs.YtofafljfabgpmaaDoorW.PrintWords Go.Proofs.YtofafljfabgpmaaDoorW.PrintLast Go.Proofs.YtofafljfabgpmaaDoor.Ext Go.Proofs.YtofafljfabgpmaaDoor.PCal
attribute [local go_sem] max2_int min2_int max_two min_two   -- for this text alone
set_option linter.unusedVariables false
set_option linter.unusedSimpArgs false

/-! ### larderref03_Days: function 14 -/
def larderref03_Days.f (k : Nat) (a0_0 : Int) (a0_1 : Int) (a0_2 : Int) : Option (Int × Int) := (larderref03_Valid.f k a0_0 a0_1 a0_2).bind fun t140102 => (if t140102 = true then ((larderref03_number.f k a0_0 a0_1 a0_2).bind fun t140103 => (some (t140103, 0))) else (some (0, 30)))
theorem larderref03_Days.mono : ∀ a0 a1 a2 k, LeO (larderref03_Days.f k a0 a1 a2) (larderref03_Days.f (k + 1) a0 a1 a2) := by
  intro a0 a1 a2 k
  unfold larderref03_Days.f
  repeat' first
      | (with_reducible exact larderref03_Valid.mono _ _ _ _)
      | (with_reducible exact larderref03_number.mono _ _ _ _)
      | (with_reducible exact LeO.refl _)
      | (with_reducible exact LeO.none _)
      | (with_reducible refine LeO.ite ?_ ?_)
      | (with_reducible refine LeO.bind ?_ (fun _ => ?_))
      | exact larderref03_Valid.mono _ _ _ _
      | exact larderref03_number.mono _ _ _ _
      | exact LeO.none _
      | refine LeO.ite ?_ ?_
      | refine LeO.bind ?_ (fun _ => ?_)
set_option maxHeartbeats 8000000 in
set_option maxRecDepth 100000 in
theorem larderref03_Days.calls (k : Nat) (a0_0 : Int) (a0_1 : Int) (a0_2 : Int) (r1 : Int) (r2 : Int) (w : World) (h : larderref03_Days.f k a0_0 a0_1 a0_2 = some (r1, r2)) :
    Calls Tryd.prog 14 #[.agg #[.int .i64 a0_0, .int .i64 a0_1, .int .i64 a0_2]] w fun e w' => e = .returned (.tuple #[.int .i64 r1, .int .i64 r2]) ∧ Below w.heap.size w w' := by
  have hu23 := Tryd.underlying23
  have HB := Aside0.mk (Below.refl w.heap.size w)
  have H : ((larderref03_Valid.f k a0_0 a0_1 a0_2).bind fun t140102 => (if t140102 = true then ((larderref03_number.f k a0_0 a0_1 a0_2).bind fun t140103 => (some (t140103, 0))) else (some (0, 30)))) = some (r1, r2) := h
  clear h
  replace H := Option.bind_eq_some_iff.mp H
  obtain ⟨t140102, A20, H⟩ := H
  replace H : (if t140102 = true then ((larderref03_number.f k a0_0 a0_1 a0_2).bind fun t140103 => (some (t140103, 0))) else (some (0, 30))) = some (r1, r2) := H
  have A2 := Aside0.mk A20
  clear A20
  by_cases c3 : t140102 = true
  · subst c3
    have H1 : ((larderref03_number.f k a0_0 a0_1 a0_2).bind fun t140103 => (some (t140103, 0))) = some (r1, r2) := by rw [if_pos rfl] at H; exact H
    clear H
    have H := H1
    clear H1
    replace H := Option.bind_eq_some_iff.mp H
    obtain ⟨t140103, A40, H⟩ := H
    replace H : (some (t140103, 0)) = some (r1, r2) := H
    have A4 := Aside0.mk A40
    clear A40
    simp only [Option.some.injEq, Prod.mk.injEq] at H
    obtain ⟨rfl, rfl⟩ := H
    go_enter Tryd.func14, Tryd.ntmps14
    go_wp2_with (first | ((with_reducible refine gate_dst (N := 1) rfl ?_); refine box_event ?hg (N := 1) ?hd (cs := #[.int .i64 a0_0, .int .i64 a0_1, .int .i64 a0_2]) (t := 23) ?hr ?_; (case hd => rfl); (case hg => rfl); (case hr => first | (go_simp; done) | (go_simp; rfl)); intro gb140101 hg w5 hbox hb; have n0_ := Aside0.mk (below_step (by repeat (first | (with_reducible first | exact HB.out | apply below_alloc | apply pw_below_drewN | apply below_drew1) | exact HB.out)) hb); have n1_ := Aside0.mk (hbox); have n2_ := Aside0.mk ((by rw [hg]; exact (below_size (by repeat (first | (with_reducible first | exact HB.out | apply below_alloc | apply pw_below_drewN | apply below_drew1) | exact HB.out))) : w.heap.size ≤ gb140101)); have n3_ := Aside0.mk ((by rw [hg]; exact (below_size (by repeat (first | (with_reducible first | exact HB.out | apply below_alloc | apply pw_below_drewN | apply below_drew1) | exact HB.out))) : w.heap.size ≤ gb140101)); clear HB; have HB := n0_; have BK140101 := n1_; have GW140101 := n2_; have GE140101 := n3_; clear n0_ n1_ n2_ n3_; clear hb hbox hg; have hcz6_0 : w5.cell? ⟨gb140101, 0, none⟩ = some (.int .i64 a0_0) := (blk_cell BK140101.out 0).trans rfl; have hcz6_1 : w5.cell? ⟨gb140101, 1, none⟩ = some (.int .i64 a0_1) := (blk_cell BK140101.out 1).trans rfl; have hcz6_2 : w5.cell? ⟨gb140101, 2, none⟩ = some (.int .i64 a0_2) := (blk_cell BK140101.out 2).trans rfl; have hfz6_0 := blk_frozen BK140101.out 0; have hfz6_1 := blk_frozen BK140101.out 1; have hfz6_2 := blk_frozen BK140101.out 2) | ((with_reducible refine gate_callee (f := 18) rfl ?_); refine goesL_ (some 6) rfl rfl Tryd.func18 (by kernel_rfl) rfl #[.agg #[.int .i64 a0_0, .int .i64 a0_1, .int .i64 a0_2]] rfl (by (try simp only [List.map_toArray, List.map_cons, List.map_nil]); first | done | rfl | (simp only [List.length_drop, List.length_take]; rfl)) ?_; (with_reducible refine (larderref03_Valid.calls k a0_0 a0_1 a0_2 true _ A2.out).mono ?_); rintro e w7 ⟨rfl, hb⟩; refine ⟨_, rfl, ?_⟩; have n0_ := Aside0.mk (blk_below (g := gb140101) (o := .cells #[.int .i64 a0_0, .int .i64 a0_1, .int .i64 a0_2] 23 (0, 0)) (by (with_reducible repeat (first | refine blk_drewN ?_ _ | refine blk_drew ?_ | refine blk_alloc ?_ _)); exact BK140101.out) hb); have n1_ := Aside0.mk (below_step (by repeat (first | (with_reducible first | exact HB.out | apply below_alloc | apply pw_below_drewN | apply below_drew1 | refine below_set ?_ GE140101.out) | exact HB.out)) hb); clear BK140101; clear HB; have BK140101 := n0_; have HB := n1_; clear n0_ n1_; (try clear hb); (try clear hb2); (try clear hk); (try clear hi); have hcz8_0 : w7.cell? ⟨gb140101, 0, none⟩ = some (.int .i64 a0_0) := (blk_cell BK140101.out 0).trans rfl; have hcz8_1 : w7.cell? ⟨gb140101, 1, none⟩ = some (.int .i64 a0_1) := (blk_cell BK140101.out 1).trans rfl; have hcz8_2 : w7.cell? ⟨gb140101, 2, none⟩ = some (.int .i64 a0_2) := (blk_cell BK140101.out 2).trans rfl; have hfz8_0 := blk_frozen BK140101.out 0; have hfz8_1 := blk_frozen BK140101.out 1; have hfz8_2 := blk_frozen BK140101.out 2) | ((with_reducible refine gate_callee (f := 34) rfl ?_); refine goesL_ (some 10) rfl rfl Tryd.func34 (by kernel_rfl) rfl #[.agg #[.int .i64 a0_0, .int .i64 a0_1, .int .i64 a0_2]] rfl (by (try simp only [List.map_toArray, List.map_cons, List.map_nil]); first | done | rfl | (simp only [List.length_drop, List.length_take]; rfl)) ?_; (with_reducible refine (larderref03_number.calls k a0_0 a0_1 a0_2 t140103 _ A4.out).mono ?_); rintro e w9 ⟨rfl, hb⟩; refine ⟨_, rfl, ?_⟩; have n0_ := Aside0.mk (blk_below (g := gb140101) (o := .cells #[.int .i64 a0_0, .int .i64 a0_1, .int .i64 a0_2] 23 (0, 0)) (by (with_reducible repeat (first | refine blk_drewN ?_ _ | refine blk_drew ?_ | refine blk_alloc ?_ _)); exact BK140101.out) hb); have n1_ := Aside0.mk (below_step (by repeat (first | (with_reducible first | exact HB.out | apply below_alloc | apply pw_below_drewN | apply below_drew1 | refine below_set ?_ GE140101.out) | exact HB.out)) hb); clear BK140101; clear HB; have BK140101 := n0_; have HB := n1_; clear n0_ n1_; (try clear hb); (try clear hb2); (try clear hk); (try clear hi)))
    go_ret2
    exact ⟨by first | rfl | (simp [errW_none, errW_some] <;> rfl) | (simp [*, errW_none, errW_some] <;> rfl), by repeat (first | (with_reducible first | exact HB.out | apply below_alloc | apply pw_below_drewN | apply below_drew1 | refine below_set ?_ GE140101.out) | exact HB.out)⟩
  · replace c3 := Bool.eq_false_iff.mpr c3
    subst c3
    have H1 : (some (0, 30)) = some (r1, r2) := by rw [if_neg (show ¬ (false = true) by decide)] at H; exact H
    clear H
    have H := H1
    clear H1
    simp only [Option.some.injEq, Prod.mk.injEq] at H
    obtain ⟨rfl, rfl⟩ := H
    go_enter Tryd.func14, Tryd.ntmps14
    go_wp2_with (first | ((with_reducible refine gate_dst (N := 1) rfl ?_); refine box_event ?hg (N := 1) ?hd (cs := #[.int .i64 a0_0, .int .i64 a0_1, .int .i64 a0_2]) (t := 23) ?hr ?_; (case hd => rfl); (case hg => rfl); (case hr => first | (go_simp; done) | (go_simp; rfl)); intro gb140101 hg w10 hbox hb; have n0_ := Aside0.mk (below_step (by repeat (first | (with_reducible first | exact HB.out | apply below_alloc | apply pw_below_drewN | apply below_drew1) | exact HB.out)) hb); have n1_ := Aside0.mk (hbox); have n2_ := Aside0.mk ((by rw [hg]; exact (below_size (by repeat (first | (with_reducible first | exact HB.out | apply below_alloc | apply pw_below_drewN | apply below_drew1) | exact HB.out))) : w.heap.size ≤ gb140101)); have n3_ := Aside0.mk ((by rw [hg]; exact (below_size (by repeat (first | (with_reducible first | exact HB.out | apply below_alloc | apply pw_below_drewN | apply below_drew1) | exact HB.out))) : w.heap.size ≤ gb140101)); clear HB; have HB := n0_; have BK140101 := n1_; have GW140101 := n2_; have GE140101 := n3_; clear n0_ n1_ n2_ n3_; clear hb hbox hg; have hcz11_0 : w10.cell? ⟨gb140101, 0, none⟩ = some (.int .i64 a0_0) := (blk_cell BK140101.out 0).trans rfl; have hcz11_1 : w10.cell? ⟨gb140101, 1, none⟩ = some (.int .i64 a0_1) := (blk_cell BK140101.out 1).trans rfl; have hcz11_2 : w10.cell? ⟨gb140101, 2, none⟩ = some (.int .i64 a0_2) := (blk_cell BK140101.out 2).trans rfl; have hfz11_0 := blk_frozen BK140101.out 0; have hfz11_1 := blk_frozen BK140101.out 1; have hfz11_2 := blk_frozen BK140101.out 2) | ((with_reducible refine gate_callee (f := 18) rfl ?_); refine goesL_ (some 6) rfl rfl Tryd.func18 (by kernel_rfl) rfl #[.agg #[.int .i64 a0_0, .int .i64 a0_1, .int .i64 a0_2]] rfl (by (try simp only [List.map_toArray, List.map_cons, List.map_nil]); first | done | rfl | (simp only [List.length_drop, List.length_take]; rfl)) ?_; (with_reducible refine (larderref03_Valid.calls k a0_0 a0_1 a0_2 false _ A2.out).mono ?_); rintro e w12 ⟨rfl, hb⟩; refine ⟨_, rfl, ?_⟩; have n0_ := Aside0.mk (blk_below (g := gb140101) (o := .cells #[.int .i64 a0_0, .int .i64 a0_1, .int .i64 a0_2] 23 (0, 0)) (by (with_reducible repeat (first | refine blk_drewN ?_ _ | refine blk_drew ?_ | refine blk_alloc ?_ _)); exact BK140101.out) hb); have n1_ := Aside0.mk (below_step (by repeat (first | (with_reducible first | exact HB.out | apply below_alloc | apply pw_below_drewN | apply below_drew1 | refine below_set ?_ GE140101.out) | exact HB.out)) hb); clear BK140101; clear HB; have BK140101 := n0_; have HB := n1_; clear n0_ n1_; (try clear hb); (try clear hb2); (try clear hk); (try clear hi)))
    go_ret2
    exact ⟨by first | rfl | (simp [errW_none, errW_some] <;> rfl) | (simp [*, errW_none, errW_some] <;> rfl), by repeat (first | (with_reducible first | exact HB.out | apply below_alloc | apply pw_below_drewN | apply below_drew1 | refine below_set ?_ GE140101.out) | exact HB.out)⟩

end Go.Proofs.YtofafljfabgpmaaDoor.GC
