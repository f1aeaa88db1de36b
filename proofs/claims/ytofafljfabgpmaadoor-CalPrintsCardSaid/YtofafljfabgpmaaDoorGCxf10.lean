-- written by a program (gp.py over the kit's print) for this claim
import Derived.Test.YtofafljfabgpmaaDoorGCx0
import Derived.Test.YtofafljfabgpmaaDoorGCxf29
import Derived.Test.YtofafljfabgpmaaDoorGCxf30
namespace Go.Proofs.YtofafljfabgpmaaDoor.GC
open Go.RowKit Go.Proofs.YtofafljfabgpmaaDoorW.PrintWords Go.Proofs.YtofafljfabgpmaaDoorW.PrintLast Go.Proofs.YtofafljfabgpmaaDoor.Ext Go.Proofs.YtofafljfabgpmaaDoor.PCal
attribute [local go_sem] max2_int min2_int max_two min_two   -- for this text alone
set_option linter.unusedVariables false
set_option linter.unusedSimpArgs false

/-! ### larderlaw03_CalPrints: function 10 -/
def larderlaw03_CalPrints.f (k : Nat) (a0_0 : Int) (a0_1 : Int) (a0_2 : Int) (a1 : Int) : Option (Bool) := (cal_PrintDate.f k a0_0 a0_1 a0_2 a1).bind fun bt100102 => ((larderref03_PrintDate.f k a0_0 a0_1 a0_2 a1).bind fun bt100104 => (if bt100102.1.toList = bt100104.1.toList then (some (bt100102.2 == bt100104.2)) else (some false)))
theorem larderlaw03_CalPrints.mono : ∀ a0 a1 a2 a3 k, LeO (larderlaw03_CalPrints.f k a0 a1 a2 a3) (larderlaw03_CalPrints.f (k + 1) a0 a1 a2 a3) := by
  intro a0 a1 a2 a3 k
  unfold larderlaw03_CalPrints.f
  repeat' first
      | (with_reducible exact cal_PrintDate.mono _ _ _ _ _)
      | (with_reducible exact larderref03_PrintDate.mono _ _ _ _ _)
      | (with_reducible exact LeO.refl _)
      | (with_reducible exact LeO.none _)
      | (with_reducible refine LeO.ite ?_ ?_)
      | (with_reducible refine LeO.bind ?_ (fun _ => ?_))
      | exact cal_PrintDate.mono _ _ _ _ _
      | exact larderref03_PrintDate.mono _ _ _ _ _
      | exact LeO.none _
      | refine LeO.ite ?_ ?_
      | refine LeO.bind ?_ (fun _ => ?_)
set_option maxHeartbeats 8000000 in
set_option maxRecDepth 100000 in
theorem larderlaw03_CalPrints.calls (k : Nat) (a0_0 : Int) (a0_1 : Int) (a0_2 : Int) (a1 : Int) (r : Bool) (w : World) (hG : GlobOk w) (h : larderlaw03_CalPrints.f k a0_0 a0_1 a0_2 a1 = some r) :
    Calls Tryd.prog 10 #[.agg #[.int .i64 a0_0, .int .i64 a0_1, .int .i64 a0_2], .int .i64 a1] w fun e w' => e = .returned (.bool r) ∧ Below w.heap.size w w' := by
  have HG := Aside0.mk hG
  clear hG
  have hu23 := Tryd.underlying23
  have HB := Aside0.mk (Below.refl w.heap.size w)
  have H : ((cal_PrintDate.f k a0_0 a0_1 a0_2 a1).bind fun bt100102 => ((larderref03_PrintDate.f k a0_0 a0_1 a0_2 a1).bind fun bt100104 => (if bt100102.1.toList = bt100104.1.toList then (some (bt100102.2 == bt100104.2)) else (some false)))) = some r := h
  clear h
  replace H := Option.bind_eq_some_iff.mp H
  obtain ⟨⟨t100102, t100103⟩, A30, H⟩ := H
  replace H : ((larderref03_PrintDate.f k a0_0 a0_1 a0_2 a1).bind fun bt100104 => (if t100102.toList = bt100104.1.toList then (some (t100103 == bt100104.2)) else (some false))) = some r := H
  have A3 := Aside0.mk A30
  clear A30
  replace H := Option.bind_eq_some_iff.mp H
  obtain ⟨⟨t100104, t100105⟩, A40, H⟩ := H
  replace H : (if t100102.toList = t100104.toList then (some (t100103 == t100105)) else (some false)) = some r := H
  have A4 := Aside0.mk A40
  clear A40
  by_cases c5 : t100102.toList = t100104.toList
  · rw [if_pos c5] at H
    have c5b0 : (t100102.toList == t100104.toList) = true := beq_iff_eq.mpr c5
    have c5b1 : (t100102.toList != t100104.toList) = false := bne_eq_false_iff_eq.mpr c5
    clear c5
    obtain rfl := Option.some.inj H
    go_enter Tryd.func10, Tryd.ntmps10
    go_wp2_with (first | ((with_reducible refine gate_dst (N := 2) rfl ?_); refine box_event ?hg (N := 2) ?hd (cs := #[.int .i64 a0_0, .int .i64 a0_1, .int .i64 a0_2]) (t := 23) ?hr ?_; (case hd => rfl); (case hg => rfl); (case hr => first | (go_simp; done) | (go_simp; rfl)); intro gb100101 hg w6 hbox hb; have n0_ := Aside0.mk (below_step (by repeat (first | (with_reducible first | exact HB.out | apply below_alloc | apply pw_below_drewN | apply below_drew1) | exact HB.out)) hb); have n1_ := Aside0.mk (hbox); have n2_ := Aside0.mk ((by rw [hg]; exact (below_size (by repeat (first | (with_reducible first | exact HB.out | apply below_alloc | apply pw_below_drewN | apply below_drew1) | exact HB.out))) : w.heap.size ≤ gb100101)); have n3_ := Aside0.mk ((by rw [hg]; exact (below_size (by repeat (first | (with_reducible first | exact HB.out | apply below_alloc | apply pw_below_drewN | apply below_drew1) | exact HB.out))) : w.heap.size ≤ gb100101)); clear HB; have HB := n0_; have BK100101 := n1_; have GW100101 := n2_; have GE100101 := n3_; clear n0_ n1_ n2_ n3_; clear hb hbox hg; have hcz7_0 : w6.cell? ⟨gb100101, 0, none⟩ = some (.int .i64 a0_0) := (blk_cell BK100101.out 0).trans rfl; have hcz7_1 : w6.cell? ⟨gb100101, 1, none⟩ = some (.int .i64 a0_1) := (blk_cell BK100101.out 1).trans rfl; have hcz7_2 : w6.cell? ⟨gb100101, 2, none⟩ = some (.int .i64 a0_2) := (blk_cell BK100101.out 2).trans rfl; have hfz7_0 := blk_frozen BK100101.out 0; have hfz7_1 := blk_frozen BK100101.out 1; have hfz7_2 := blk_frozen BK100101.out 2) | ((with_reducible refine gate_callee (f := 29) rfl ?_); refine goesL_ (some 12) rfl rfl Tryd.func29 (by kernel_rfl) rfl #[.agg #[.int .i64 a0_0, .int .i64 a0_1, .int .i64 a0_2], .int .i64 a1] rfl (by (try simp only [List.map_toArray, List.map_cons, List.map_nil]); first | done | rfl | (simp only [List.length_drop, List.length_take]; rfl)) ?_; (with_reducible refine (cal_PrintDate.calls k a0_0 a0_1 a0_2 a1 t100102 t100103 _ ?side1 A3.out).mono ?_); (case side1 => refine GlobOk.below HG.out ?_; repeat (first | (with_reducible first | exact HB.out | apply below_alloc | apply pw_below_drewN | apply below_drew1 | refine below_set ?_ GE100101.out) | exact HB.out)); rintro e w8 ⟨rfl, hb⟩; refine ⟨_, rfl, ?_⟩; have n0_ := Aside0.mk (blk_below (g := gb100101) (o := .cells #[.int .i64 a0_0, .int .i64 a0_1, .int .i64 a0_2] 23 (0, 0)) (by (with_reducible repeat (first | refine blk_drewN ?_ _ | refine blk_drew ?_ | refine blk_alloc ?_ _)); exact BK100101.out) hb); have n1_ := Aside0.mk (below_step (by repeat (first | (with_reducible first | exact HB.out | apply below_alloc | apply pw_below_drewN | apply below_drew1 | refine below_set ?_ GE100101.out) | exact HB.out)) hb); clear BK100101; clear HB; have BK100101 := n0_; have HB := n1_; clear n0_ n1_; (try clear hb); (try clear hb2); (try clear hk); (try clear hi); have hcz9_0 : w8.cell? ⟨gb100101, 0, none⟩ = some (.int .i64 a0_0) := (blk_cell BK100101.out 0).trans rfl; have hcz9_1 : w8.cell? ⟨gb100101, 1, none⟩ = some (.int .i64 a0_1) := (blk_cell BK100101.out 1).trans rfl; have hcz9_2 : w8.cell? ⟨gb100101, 2, none⟩ = some (.int .i64 a0_2) := (blk_cell BK100101.out 2).trans rfl; have hfz9_0 := blk_frozen BK100101.out 0; have hfz9_1 := blk_frozen BK100101.out 1; have hfz9_2 := blk_frozen BK100101.out 2) | ((with_reducible refine gate_callee (f := 30) rfl ?_); refine goesL_ (some 18) rfl rfl Tryd.func30 (by kernel_rfl) rfl #[.agg #[.int .i64 a0_0, .int .i64 a0_1, .int .i64 a0_2], .int .i64 a1] rfl (by (try simp only [List.map_toArray, List.map_cons, List.map_nil]); first | done | rfl | (simp only [List.length_drop, List.length_take]; rfl)) ?_; (with_reducible refine (larderref03_PrintDate.calls k a0_0 a0_1 a0_2 a1 t100104 t100105 _ A4.out).mono ?_); rintro e w10 ⟨rfl, hb⟩; refine ⟨_, rfl, ?_⟩; have n0_ := Aside0.mk (blk_below (g := gb100101) (o := .cells #[.int .i64 a0_0, .int .i64 a0_1, .int .i64 a0_2] 23 (0, 0)) (by (with_reducible repeat (first | refine blk_drewN ?_ _ | refine blk_drew ?_ | refine blk_alloc ?_ _)); exact BK100101.out) hb); have n1_ := Aside0.mk (below_step (by repeat (first | (with_reducible first | exact HB.out | apply below_alloc | apply pw_below_drewN | apply below_drew1 | refine below_set ?_ GE100101.out) | exact HB.out)) hb); clear BK100101; clear HB; have BK100101 := n0_; have HB := n1_; clear n0_ n1_; (try clear hb); (try clear hb2); (try clear hk); (try clear hi)))
    go_ret
    exact ⟨by first | rfl | (simp [errW_none, errW_some] <;> rfl) | (simp [*, errW_none, errW_some] <;> rfl), by repeat (first | (with_reducible first | exact HB.out | apply below_alloc | apply pw_below_drewN | apply below_drew1 | refine below_set ?_ GE100101.out) | exact HB.out)⟩
  · rw [if_neg c5] at H
    have c5b0 : (t100102.toList == t100104.toList) = false := beq_eq_false_iff_ne.mpr c5
    have c5b1 : (t100102.toList != t100104.toList) = true := bne_iff_ne.mpr c5
    obtain rfl := Option.some.inj H
    go_enter Tryd.func10, Tryd.ntmps10
    go_wp2_with (first | ((with_reducible refine gate_dst (N := 2) rfl ?_); refine box_event ?hg (N := 2) ?hd (cs := #[.int .i64 a0_0, .int .i64 a0_1, .int .i64 a0_2]) (t := 23) ?hr ?_; (case hd => rfl); (case hg => rfl); (case hr => first | (go_simp; done) | (go_simp; rfl)); intro gb100101 hg w11 hbox hb; have n0_ := Aside0.mk (below_step (by repeat (first | (with_reducible first | exact HB.out | apply below_alloc | apply pw_below_drewN | apply below_drew1) | exact HB.out)) hb); have n1_ := Aside0.mk (hbox); have n2_ := Aside0.mk ((by rw [hg]; exact (below_size (by repeat (first | (with_reducible first | exact HB.out | apply below_alloc | apply pw_below_drewN | apply below_drew1) | exact HB.out))) : w.heap.size ≤ gb100101)); have n3_ := Aside0.mk ((by rw [hg]; exact (below_size (by repeat (first | (with_reducible first | exact HB.out | apply below_alloc | apply pw_below_drewN | apply below_drew1) | exact HB.out))) : w.heap.size ≤ gb100101)); clear HB; have HB := n0_; have BK100101 := n1_; have GW100101 := n2_; have GE100101 := n3_; clear n0_ n1_ n2_ n3_; clear hb hbox hg; have hcz12_0 : w11.cell? ⟨gb100101, 0, none⟩ = some (.int .i64 a0_0) := (blk_cell BK100101.out 0).trans rfl; have hcz12_1 : w11.cell? ⟨gb100101, 1, none⟩ = some (.int .i64 a0_1) := (blk_cell BK100101.out 1).trans rfl; have hcz12_2 : w11.cell? ⟨gb100101, 2, none⟩ = some (.int .i64 a0_2) := (blk_cell BK100101.out 2).trans rfl; have hfz12_0 := blk_frozen BK100101.out 0; have hfz12_1 := blk_frozen BK100101.out 1; have hfz12_2 := blk_frozen BK100101.out 2) | ((with_reducible refine gate_callee (f := 29) rfl ?_); refine goesL_ (some 12) rfl rfl Tryd.func29 (by kernel_rfl) rfl #[.agg #[.int .i64 a0_0, .int .i64 a0_1, .int .i64 a0_2], .int .i64 a1] rfl (by (try simp only [List.map_toArray, List.map_cons, List.map_nil]); first | done | rfl | (simp only [List.length_drop, List.length_take]; rfl)) ?_; (with_reducible refine (cal_PrintDate.calls k a0_0 a0_1 a0_2 a1 t100102 t100103 _ ?side1 A3.out).mono ?_); (case side1 => refine GlobOk.below HG.out ?_; repeat (first | (with_reducible first | exact HB.out | apply below_alloc | apply pw_below_drewN | apply below_drew1 | refine below_set ?_ GE100101.out) | exact HB.out)); rintro e w13 ⟨rfl, hb⟩; refine ⟨_, rfl, ?_⟩; have n0_ := Aside0.mk (blk_below (g := gb100101) (o := .cells #[.int .i64 a0_0, .int .i64 a0_1, .int .i64 a0_2] 23 (0, 0)) (by (with_reducible repeat (first | refine blk_drewN ?_ _ | refine blk_drew ?_ | refine blk_alloc ?_ _)); exact BK100101.out) hb); have n1_ := Aside0.mk (below_step (by repeat (first | (with_reducible first | exact HB.out | apply below_alloc | apply pw_below_drewN | apply below_drew1 | refine below_set ?_ GE100101.out) | exact HB.out)) hb); clear BK100101; clear HB; have BK100101 := n0_; have HB := n1_; clear n0_ n1_; (try clear hb); (try clear hb2); (try clear hk); (try clear hi); have hcz14_0 : w13.cell? ⟨gb100101, 0, none⟩ = some (.int .i64 a0_0) := (blk_cell BK100101.out 0).trans rfl; have hcz14_1 : w13.cell? ⟨gb100101, 1, none⟩ = some (.int .i64 a0_1) := (blk_cell BK100101.out 1).trans rfl; have hcz14_2 : w13.cell? ⟨gb100101, 2, none⟩ = some (.int .i64 a0_2) := (blk_cell BK100101.out 2).trans rfl; have hfz14_0 := blk_frozen BK100101.out 0; have hfz14_1 := blk_frozen BK100101.out 1; have hfz14_2 := blk_frozen BK100101.out 2) | ((with_reducible refine gate_callee (f := 30) rfl ?_); refine goesL_ (some 18) rfl rfl Tryd.func30 (by kernel_rfl) rfl #[.agg #[.int .i64 a0_0, .int .i64 a0_1, .int .i64 a0_2], .int .i64 a1] rfl (by (try simp only [List.map_toArray, List.map_cons, List.map_nil]); first | done | rfl | (simp only [List.length_drop, List.length_take]; rfl)) ?_; (with_reducible refine (larderref03_PrintDate.calls k a0_0 a0_1 a0_2 a1 t100104 t100105 _ A4.out).mono ?_); rintro e w15 ⟨rfl, hb⟩; refine ⟨_, rfl, ?_⟩; have n0_ := Aside0.mk (blk_below (g := gb100101) (o := .cells #[.int .i64 a0_0, .int .i64 a0_1, .int .i64 a0_2] 23 (0, 0)) (by (with_reducible repeat (first | refine blk_drewN ?_ _ | refine blk_drew ?_ | refine blk_alloc ?_ _)); exact BK100101.out) hb); have n1_ := Aside0.mk (below_step (by repeat (first | (with_reducible first | exact HB.out | apply below_alloc | apply pw_below_drewN | apply below_drew1 | refine below_set ?_ GE100101.out) | exact HB.out)) hb); clear BK100101; clear HB; have BK100101 := n0_; have HB := n1_; clear n0_ n1_; (try clear hb); (try clear hb2); (try clear hk); (try clear hi)))
    go_ret
    exact ⟨by first | rfl | (simp [errW_none, errW_some] <;> rfl) | (simp [*, errW_none, errW_some] <;> rfl), by repeat (first | (with_reducible first | exact HB.out | apply below_alloc | apply pw_below_drewN | apply below_drew1 | refine below_set ?_ GE100101.out) | exact HB.out)⟩

end Go.Proofs.YtofafljfabgpmaaDoor.GC
