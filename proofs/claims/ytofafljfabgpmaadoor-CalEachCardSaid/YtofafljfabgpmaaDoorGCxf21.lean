-- written by a program (gp.py over the kit's print) for this claim
import Derived.Test.YtofafljfabgpmaaDoorGCx0
import Derived.Test.YtofafljfabgpmaaDoorGCxf14
import Derived.Test.YtofafljfabgpmaaDoorGCxf36
namespace Go.Proofs.YtofafljfabgpmaaDoor.GC
open Go.RowKit Go.Proofs.YtofafljfabgpmaaDoorW.PrintWords Go.Proofs.YtofafljfabgpmaaDoorW.PrintLast Go.Proofs.YtofafljfabgpmaaDoor.Ext Go.Proofs.YtofafljfabgpmaaDoor.PCal
attribute [local go_sem] max2_int min2_int max_two min_two   -- for this text alone
set_option linter.unusedVariables false
set_option linter.unusedSimpArgs false

/-! ### larderref03_List: function 21 -/
mutual
def larderref03_List.j0 : Nat → Int → Int → List (S23) → Int → Int → Bool → Option ((List (S23)))
  | 0, _, _, _, _, _, _ => none
  | k + 1, x2, x3, x9, x10, x12, x35 => if x35 = true then (some x9) else (if x2 > 3652425 then (larderref03_List.j1 k 3652425 x3 x9 x10 x12) else (larderref03_List.j1 k x2 x3 x9 x10 x12))
def larderref03_List.j1 : Nat → Int → Int → List (S23) → Int → Int → Option ((List (S23)))
  | 0, _, _, _, _, _ => none
  | k + 1, x2, x3, x9, x10, x12 => if x2 < (-3652425) then (larderref03_List.j2 k (-3652425) x3 x9 x10 x12) else (larderref03_List.j2 k x2 x3 x9 x10 x12)
def larderref03_List.j2 : Nat → Int → Int → List (S23) → Int → Int → Option ((List (S23)))
  | 0, _, _, _, _, _ => none
  | k + 1, x2, x3, x9, x10, x12 => larderref03_List.l0 k x2 x3 x9 x12 x10
def larderref03_List.l0 : Nat → Int → Int → List (S23) → Int → Int → Option ((List (S23)))
  | 0, _, _, _, _, _ => none
  | k + 1, x2, x3, x9, x12, x14 => if x14 ≥ 0 then (if x14 ≤ 3652424 then (if x2 > 0 then (if x14 ≤ x12 then (if (x9.length : Int) < x3 then ((larderref03_date.f k x14).bind fun bt210107 => (if x9.length < 5864062014805 then (larderref03_List.l0 k x2 x3 (x9 ++ [(⟨bt210107.1, bt210107.2.1, bt210107.2.2⟩ : S23)]) x12 (wrap64 (x14 + x2))) else (none))) else (some x9)) else (if x2 < 0 then (if x14 ≥ x12 then (if (x9.length : Int) < x3 then ((larderref03_date.f k x14).bind fun bt210114 => (if x9.length < 5864062014805 then (larderref03_List.l0 k x2 x3 (x9 ++ [(⟨bt210114.1, bt210114.2.1, bt210114.2.2⟩ : S23)]) x12 (wrap64 (x14 + x2))) else (none))) else (some x9)) else (some x9)) else (some x9))) else (if x2 < 0 then (if x14 ≥ x12 then (if (x9.length : Int) < x3 then ((larderref03_date.f k x14).bind fun bt210121 => (if x9.length < 5864062014805 then (larderref03_List.l0 k x2 x3 (x9 ++ [(⟨bt210121.1, bt210121.2.1, bt210121.2.2⟩ : S23)]) x12 (wrap64 (x14 + x2))) else (none))) else (some x9)) else (some x9)) else (some x9))) else (some x9)) else (some x9)
end
def larderref03_List.f (k : Nat) (a0_0 : Int) (a0_1 : Int) (a0_2 : Int) (a1_0 : Int) (a1_1 : Int) (a1_2 : Int) (a2 : Int) (a3 : Int) : Option ((List (S23))) := (larderref03_Days.f k a0_0 a0_1 a0_2).bind fun bt210103 => ((larderref03_Days.f k a1_0 a1_1 a1_2).bind fun bt210105 => (if bt210103.2 = 0 then (if bt210105.2 = 0 then (larderref03_List.j0 k a2 a3 ([] : List (S23)) bt210103.1 bt210105.1 (a2 == 0)) else (larderref03_List.j0 k a2 a3 ([] : List (S23)) bt210103.1 bt210105.1 true)) else (larderref03_List.j0 k a2 a3 ([] : List (S23)) bt210103.1 bt210105.1 true)))
theorem larderref03_List.mono_l : ∀ k, (∀ y0 y1 y2 y3 y4 y5, LeO (larderref03_List.j0 k y0 y1 y2 y3 y4 y5) (larderref03_List.j0 (k + 1) y0 y1 y2 y3 y4 y5)) ∧ (∀ y0 y1 y2 y3 y4, LeO (larderref03_List.j1 k y0 y1 y2 y3 y4) (larderref03_List.j1 (k + 1) y0 y1 y2 y3 y4)) ∧ (∀ y0 y1 y2 y3 y4, LeO (larderref03_List.j2 k y0 y1 y2 y3 y4) (larderref03_List.j2 (k + 1) y0 y1 y2 y3 y4)) ∧ (∀ y0 y1 y2 y3 y4, LeO (larderref03_List.l0 k y0 y1 y2 y3 y4) (larderref03_List.l0 (k + 1) y0 y1 y2 y3 y4))
  | 0 => ⟨fun _ _ _ _ _ _ r h => by simp [larderref03_List.j0] at h, fun _ _ _ _ _ r h => by simp [larderref03_List.j1] at h, fun _ _ _ _ _ r h => by simp [larderref03_List.j2] at h, fun _ _ _ _ _ r h => by simp [larderref03_List.l0] at h⟩
  | k + 1 => by
    obtain ⟨ih0, ih1, ih2, ih3⟩ := larderref03_List.mono_l k
    refine ⟨?_, ?_, ?_, ?_⟩
    · intro y0 y1 y2 y3 y4 y5
      unfold larderref03_List.j0
      repeat' first
      | (with_reducible exact ih0 _ _ _ _ _ _)
      | (with_reducible exact ih1 _ _ _ _ _)
      | (with_reducible exact ih2 _ _ _ _ _)
      | (with_reducible exact ih3 _ _ _ _ _)
      | (with_reducible exact larderref03_Days.mono _ _ _ _)
      | (with_reducible exact larderref03_date.mono _ _)
      | (with_reducible exact LeO.refl _)
      | (with_reducible exact LeO.none _)
      | (with_reducible refine LeO.ite ?_ ?_)
      | (with_reducible refine LeO.bind ?_ (fun _ => ?_))
      | exact ih0 _ _ _ _ _ _
      | exact ih1 _ _ _ _ _
      | exact ih2 _ _ _ _ _
      | exact ih3 _ _ _ _ _
      | exact larderref03_Days.mono _ _ _ _
      | exact larderref03_date.mono _ _
      | exact LeO.none _
      | refine LeO.ite ?_ ?_
      | refine LeO.bind ?_ (fun _ => ?_)
    · intro y0 y1 y2 y3 y4
      unfold larderref03_List.j1
      repeat' first
      | (with_reducible exact ih0 _ _ _ _ _ _)
      | (with_reducible exact ih1 _ _ _ _ _)
      | (with_reducible exact ih2 _ _ _ _ _)
      | (with_reducible exact ih3 _ _ _ _ _)
      | (with_reducible exact larderref03_Days.mono _ _ _ _)
      | (with_reducible exact larderref03_date.mono _ _)
      | (with_reducible exact LeO.refl _)
      | (with_reducible exact LeO.none _)
      | (with_reducible refine LeO.ite ?_ ?_)
      | (with_reducible refine LeO.bind ?_ (fun _ => ?_))
      | exact ih0 _ _ _ _ _ _
      | exact ih1 _ _ _ _ _
      | exact ih2 _ _ _ _ _
      | exact ih3 _ _ _ _ _
      | exact larderref03_Days.mono _ _ _ _
      | exact larderref03_date.mono _ _
      | exact LeO.none _
      | refine LeO.ite ?_ ?_
      | refine LeO.bind ?_ (fun _ => ?_)
    · intro y0 y1 y2 y3 y4
      unfold larderref03_List.j2
      repeat' first
      | (with_reducible exact ih0 _ _ _ _ _ _)
      | (with_reducible exact ih1 _ _ _ _ _)
      | (with_reducible exact ih2 _ _ _ _ _)
      | (with_reducible exact ih3 _ _ _ _ _)
      | (with_reducible exact larderref03_Days.mono _ _ _ _)
      | (with_reducible exact larderref03_date.mono _ _)
      | (with_reducible exact LeO.refl _)
      | (with_reducible exact LeO.none _)
      | (with_reducible refine LeO.ite ?_ ?_)
      | (with_reducible refine LeO.bind ?_ (fun _ => ?_))
      | exact ih0 _ _ _ _ _ _
      | exact ih1 _ _ _ _ _
      | exact ih2 _ _ _ _ _
      | exact ih3 _ _ _ _ _
      | exact larderref03_Days.mono _ _ _ _
      | exact larderref03_date.mono _ _
      | exact LeO.none _
      | refine LeO.ite ?_ ?_
      | refine LeO.bind ?_ (fun _ => ?_)
    · intro y0 y1 y2 y3 y4
      unfold larderref03_List.l0
      repeat' first
      | (with_reducible exact ih0 _ _ _ _ _ _)
      | (with_reducible exact ih1 _ _ _ _ _)
      | (with_reducible exact ih2 _ _ _ _ _)
      | (with_reducible exact ih3 _ _ _ _ _)
      | (with_reducible exact larderref03_Days.mono _ _ _ _)
      | (with_reducible exact larderref03_date.mono _ _)
      | (with_reducible exact LeO.refl _)
      | (with_reducible exact LeO.none _)
      | (with_reducible refine LeO.ite ?_ ?_)
      | (with_reducible refine LeO.bind ?_ (fun _ => ?_))
      | exact ih0 _ _ _ _ _ _
      | exact ih1 _ _ _ _ _
      | exact ih2 _ _ _ _ _
      | exact ih3 _ _ _ _ _
      | exact larderref03_Days.mono _ _ _ _
      | exact larderref03_date.mono _ _
      | exact LeO.none _
      | refine LeO.ite ?_ ?_
      | refine LeO.bind ?_ (fun _ => ?_)
theorem larderref03_List.mono : ∀ a0 a1 a2 a3 a4 a5 a6 a7 k, LeO (larderref03_List.f k a0 a1 a2 a3 a4 a5 a6 a7) (larderref03_List.f (k + 1) a0 a1 a2 a3 a4 a5 a6 a7) := by
  intro a0 a1 a2 a3 a4 a5 a6 a7 k
  obtain ⟨ih0, ih1, ih2, ih3⟩ := larderref03_List.mono_l k
  unfold larderref03_List.f
  repeat' first
      | (with_reducible exact ih0 _ _ _ _ _ _)
      | (with_reducible exact ih1 _ _ _ _ _)
      | (with_reducible exact ih2 _ _ _ _ _)
      | (with_reducible exact ih3 _ _ _ _ _)
      | (with_reducible exact larderref03_Days.mono _ _ _ _)
      | (with_reducible exact larderref03_date.mono _ _)
      | (with_reducible exact LeO.refl _)
      | (with_reducible exact LeO.none _)
      | (with_reducible refine LeO.ite ?_ ?_)
      | (with_reducible refine LeO.bind ?_ (fun _ => ?_))
      | exact ih0 _ _ _ _ _ _
      | exact ih1 _ _ _ _ _
      | exact ih2 _ _ _ _ _
      | exact ih3 _ _ _ _ _
      | exact larderref03_Days.mono _ _ _ _
      | exact larderref03_date.mono _ _
      | exact LeO.none _
      | refine LeO.ite ?_ ?_
      | refine LeO.bind ?_ (fun _ => ?_)
set_option maxHeartbeats 8000000 in
set_option maxRecDepth 100000 in
theorem larderref03_List.calls (k : Nat) (a0_0 : Int) (a0_1 : Int) (a0_2 : Int) (a1_0 : Int) (a1_1 : Int) (a1_2 : Int) (a2 : Int) (a3 : Int) (r : List (S23)) (w : World) (h : larderref03_List.f k a0_0 a0_1 a0_2 a1_0 a1_1 a1_2 a2 a3 = some r) :
    Calls Tryd.prog 21 #[.agg #[.int .i64 a0_0, .int .i64 a0_1, .int .i64 a0_2], .agg #[.int .i64 a1_0, .int .i64 a1_1, .int .i64 a1_2], .int .i64 a2, .int .i64 a3] w fun e w' => ∃ v0_ : Value, e = .returned (v0_) ∧ Kd.R k23 23 w' w.heap.size (fun _ => True) v0_ r ∧ Below w.heap.size w w' := by
  have hu23 := Tryd.underlying23
  have HB := Aside0.mk (Below.refl w.heap.size w)
  have H : ((larderref03_Days.f k a0_0 a0_1 a0_2).bind fun bt210103 => ((larderref03_Days.f k a1_0 a1_1 a1_2).bind fun bt210105 => (if bt210103.2 = 0 then (if bt210105.2 = 0 then (larderref03_List.j0 k a2 a3 ([] : List (S23)) bt210103.1 bt210105.1 (a2 == 0)) else (larderref03_List.j0 k a2 a3 ([] : List (S23)) bt210103.1 bt210105.1 true)) else (larderref03_List.j0 k a2 a3 ([] : List (S23)) bt210103.1 bt210105.1 true)))) = some r := h
  clear h
  replace H := Option.bind_eq_some_iff.mp H
  obtain ⟨⟨t210103, t210104⟩, A50, H⟩ := H
  replace H : ((larderref03_Days.f k a1_0 a1_1 a1_2).bind fun bt210105 => (if t210104 = 0 then (if bt210105.2 = 0 then (larderref03_List.j0 k a2 a3 ([] : List (S23)) t210103 bt210105.1 (a2 == 0)) else (larderref03_List.j0 k a2 a3 ([] : List (S23)) t210103 bt210105.1 true)) else (larderref03_List.j0 k a2 a3 ([] : List (S23)) t210103 bt210105.1 true))) = some r := H
  have A5 := Aside0.mk A50
  clear A50
  replace H := Option.bind_eq_some_iff.mp H
  obtain ⟨⟨t210105, t210106⟩, A60, H⟩ := H
  replace H : (if t210104 = 0 then (if t210106 = 0 then (larderref03_List.j0 k a2 a3 ([] : List (S23)) t210103 t210105 (a2 == 0)) else (larderref03_List.j0 k a2 a3 ([] : List (S23)) t210103 t210105 true)) else (larderref03_List.j0 k a2 a3 ([] : List (S23)) t210103 t210105 true)) = some r := H
  have A6 := Aside0.mk A60
  clear A60
  have HC7 := Aside0.mk H
  clear H
  go_enter Tryd.func21, Tryd.ntmps21
  go_upto_region 4 with (first | ((with_reducible refine gate_dst (N := 4) rfl ?_); refine box_event ?hg (N := 4) ?hd (cs := #[.int .i64 a0_0, .int .i64 a0_1, .int .i64 a0_2]) (t := 23) ?hr ?_; (case hd => rfl); (case hg => rfl); (case hr => first | (go_simp; done) | (go_simp; rfl)); intro gb210101 hg w8 hbox hb; have n0_ := Aside0.mk (below_step (by repeat (first | (with_reducible first | exact HB.out | apply below_alloc | apply pw_below_drewN | apply below_drew1) | exact HB.out)) hb); have n1_ := Aside0.mk (hbox); have n2_ := Aside0.mk ((by rw [hg]; exact (below_size (by repeat (first | (with_reducible first | exact HB.out | apply below_alloc | apply pw_below_drewN | apply below_drew1) | exact HB.out))) : w.heap.size ≤ gb210101)); have n3_ := Aside0.mk ((by rw [hg]; exact (below_size (by repeat (first | (with_reducible first | exact HB.out | apply below_alloc | apply pw_below_drewN | apply below_drew1) | exact HB.out))) : w.heap.size ≤ gb210101)); clear HB; have HB := n0_; have BK210101 := n1_; have GW210101 := n2_; have GE210101 := n3_; clear n0_ n1_ n2_ n3_; clear hb hbox hg) | ((with_reducible refine gate_dst (N := 5) rfl ?_); refine box_event ?hg (N := 5) ?hd (cs := #[.int .i64 a1_0, .int .i64 a1_1, .int .i64 a1_2]) (t := 23) ?hr ?_; (case hd => rfl); (case hg => rfl); (case hr => first | (go_simp; done) | (go_simp; rfl)); intro gb210102 hg w9 hbox hb; have n0_ := Aside0.mk (blk_below (g := gb210101) (o := .cells #[.int .i64 a0_0, .int .i64 a0_1, .int .i64 a0_2] 23 (0, 0)) (by (with_reducible repeat (first | refine blk_drewN ?_ _ | refine blk_drew ?_ | refine blk_alloc ?_ _)); exact BK210101.out) hb); have n1_ := Aside0.mk (below_step (by repeat (first | (with_reducible first | exact HB.out | apply below_alloc | apply pw_below_drewN | apply below_drew1 | refine below_set ?_ GE210101.out) | exact HB.out)) hb); have n2_ := Aside0.mk (hbox); have n3_ := Aside0.mk ((by rw [hg]; exact (below_size (by repeat (first | (with_reducible first | exact HB.out | apply below_alloc | apply pw_below_drewN | apply below_drew1 | refine below_set ?_ GE210101.out) | exact HB.out))) : w.heap.size ≤ gb210102)); have n4_ := Aside0.mk ((by rw [hg]; exact (below_size (by repeat (first | (with_reducible first | exact HB.out | apply below_alloc | apply pw_below_drewN | apply below_drew1 | refine below_set ?_ GE210101.out) | exact HB.out))) : w.heap.size ≤ gb210102)); have n5_ := Aside0.mk ((by rw [hg]; exact Nat.ne_of_lt (blk_lt (g := gb210101) (o := .cells #[.int .i64 a0_0, .int .i64 a0_1, .int .i64 a0_2] 23 (0, 0)) (by (with_reducible repeat (first | refine blk_drewN ?_ _ | refine blk_drew ?_ | refine blk_alloc ?_ _)); exact BK210101.out)) : gb210101 ≠ gb210102)); have n6_ := Aside0.mk ((by rw [hg]; exact Nat.ne_of_gt (blk_lt (g := gb210101) (o := .cells #[.int .i64 a0_0, .int .i64 a0_1, .int .i64 a0_2] 23 (0, 0)) (by (with_reducible repeat (first | refine blk_drewN ?_ _ | refine blk_drew ?_ | refine blk_alloc ?_ _)); exact BK210101.out)) : gb210102 ≠ gb210101)); clear BK210101; clear HB; have BK210101 := n0_; have HB := n1_; have BK210102 := n2_; have GW210102 := n3_; have GE210102 := n4_; have NB210101_210102 := n5_; have NB210102_210101 := n6_; clear n0_ n1_ n2_ n3_ n4_ n5_ n6_; clear hb hbox hg; have hnb10 := NB210101_210102.out; have hnc10 := NB210102_210101.out; have hcz11_0 : w9.cell? ⟨gb210101, 0, none⟩ = some (.int .i64 a0_0) := (blk_cell BK210101.out 0).trans rfl; have hcz11_1 : w9.cell? ⟨gb210101, 1, none⟩ = some (.int .i64 a0_1) := (blk_cell BK210101.out 1).trans rfl; have hcz11_2 : w9.cell? ⟨gb210101, 2, none⟩ = some (.int .i64 a0_2) := (blk_cell BK210101.out 2).trans rfl; have hfz11_0 := blk_frozen BK210101.out 0; have hfz11_1 := blk_frozen BK210101.out 1; have hfz11_2 := blk_frozen BK210101.out 2) | ((with_reducible refine gate_callee (f := 14) rfl ?_); refine goesL_ (some 18) rfl rfl Tryd.func14 (by kernel_rfl) rfl #[.agg #[.int .i64 a0_0, .int .i64 a0_1, .int .i64 a0_2]] rfl (by (try simp only [List.map_toArray, List.map_cons, List.map_nil]); first | done | rfl | (simp only [List.length_drop, List.length_take]; rfl)) ?_; (with_reducible refine (larderref03_Days.calls k a0_0 a0_1 a0_2 t210103 t210104 _ A5.out).mono ?_); rintro e w12 ⟨rfl, hb⟩; refine ⟨_, rfl, ?_⟩; have n0_ := Aside0.mk (blk_below (g := gb210101) (o := .cells #[.int .i64 a0_0, .int .i64 a0_1, .int .i64 a0_2] 23 (0, 0)) (by (with_reducible repeat (first | refine blk_drewN ?_ _ | refine blk_drew ?_ | refine blk_alloc ?_ _)); exact BK210101.out) hb); have n1_ := Aside0.mk (blk_below (g := gb210102) (o := .cells #[.int .i64 a1_0, .int .i64 a1_1, .int .i64 a1_2] 23 (0, 0)) (by (with_reducible repeat (first | refine blk_drewN ?_ _ | refine blk_drew ?_ | refine blk_alloc ?_ _)); exact BK210102.out) hb); have n2_ := Aside0.mk (below_step (by repeat (first | (with_reducible first | exact HB.out | apply below_alloc | apply pw_below_drewN | apply below_drew1 | refine below_set ?_ GE210101.out | refine below_set ?_ GE210102.out) | exact HB.out)) hb); clear BK210101; clear BK210102; clear HB; have BK210101 := n0_; have BK210102 := n1_; have HB := n2_; clear n0_ n1_ n2_; (try clear hb); (try clear hb2); (try clear hk); (try clear hi); have hcz13_0 : w12.cell? ⟨gb210102, 0, none⟩ = some (.int .i64 a1_0) := (blk_cell BK210102.out 0).trans rfl; have hcz13_1 : w12.cell? ⟨gb210102, 1, none⟩ = some (.int .i64 a1_1) := (blk_cell BK210102.out 1).trans rfl; have hcz13_2 : w12.cell? ⟨gb210102, 2, none⟩ = some (.int .i64 a1_2) := (blk_cell BK210102.out 2).trans rfl; have hfz13_0 := blk_frozen BK210102.out 0; have hfz13_1 := blk_frozen BK210102.out 1; have hfz13_2 := blk_frozen BK210102.out 2) | ((with_reducible refine gate_callee (f := 14) rfl ?_); refine goesL_ (some 23) rfl rfl Tryd.func14 (by kernel_rfl) rfl #[.agg #[.int .i64 a1_0, .int .i64 a1_1, .int .i64 a1_2]] rfl (by (try simp only [List.map_toArray, List.map_cons, List.map_nil]); first | done | rfl | (simp only [List.length_drop, List.length_take]; rfl)) ?_; (with_reducible refine (larderref03_Days.calls k a1_0 a1_1 a1_2 t210105 t210106 _ A6.out).mono ?_); rintro e w14 ⟨rfl, hb⟩; refine ⟨_, rfl, ?_⟩; have n0_ := Aside0.mk (blk_below (g := gb210101) (o := .cells #[.int .i64 a0_0, .int .i64 a0_1, .int .i64 a0_2] 23 (0, 0)) (by (with_reducible repeat (first | refine blk_drewN ?_ _ | refine blk_drew ?_ | refine blk_alloc ?_ _)); exact BK210101.out) hb); have n1_ := Aside0.mk (blk_below (g := gb210102) (o := .cells #[.int .i64 a1_0, .int .i64 a1_1, .int .i64 a1_2] 23 (0, 0)) (by (with_reducible repeat (first | refine blk_drewN ?_ _ | refine blk_drew ?_ | refine blk_alloc ?_ _)); exact BK210102.out) hb); have n2_ := Aside0.mk (below_step (by repeat (first | (with_reducible first | exact HB.out | apply below_alloc | apply pw_below_drewN | apply below_drew1 | refine below_set ?_ GE210101.out | refine below_set ?_ GE210102.out) | exact HB.out)) hb); clear BK210101; clear BK210102; clear HB; have BK210101 := n0_; have BK210102 := n1_; have HB := n2_; clear n0_ n1_ n2_; (try clear hb); (try clear hb2); (try clear hk); (try clear hi)))
  (try simp only [Act.put, List.setIfInBounds_toArray, List.set_cons_zero, List.set_cons_succ])
  go_cut [35] (fun v35 wc => ∃ (kq : Nat) (x35_6 : Bool), v35 = .bool x35_6 ∧ Aside0 (larderref03_List.j0 kq a2 a3 ([] : List (S23)) t210103 t210105 x35_6 = some r) ∧ Aside0 (kq ≤ k) ∧ Aside0 (Kd.R k23 23 wc w.heap.size (fun k_ => k_ ≠ gb210101 ∧ k_ ≠ gb210102) (.slice none 0 0) ([] : List (S23))) ∧ Aside0 (wc.heap[gb210101]? = some (.cells #[.int .i64 a0_0, .int .i64 a0_1, .int .i64 a0_2] 23 (0, 0))) ∧ Aside0 (wc.heap[gb210102]? = some (.cells #[.int .i64 a1_0, .int .i64 a1_1, .int .i64 a1_2] 23 (0, 0))) ∧ Aside0 (Below w.heap.size w wc))
  case first =>
    have H := HC7.out
    clear HC7
    by_cases c15 : t210104 = 0
    · rw [if_pos c15] at H
      have c15b0 : (t210104 == 0) = true := beq_iff_eq.mpr c15
      have c15b1 : (t210104 != 0) = false := bne_eq_false_iff_eq.mpr c15
      clear c15
      (first | rw [c15b0] | (simp only [i64_w, i32_w]; rw [c15b0]) | skip)
      by_cases c16 : t210106 = 0
      · rw [if_pos c16] at H
        have c16b0 : (t210106 == 0) = true := beq_iff_eq.mpr c16
        have c16b1 : (t210106 != 0) = false := bne_eq_false_iff_eq.mpr c16
        clear c16
        have H' := Aside0.mk H
        clear H
        go_wp2
        go_meet
        case rel => exact ⟨_, ((a2 == 0)), (by first | rfl | (simp; done) | (simp [*]; done)), H', ⟨by first | omega | exact Nat.le_refl _⟩, ⟨by first | exact Kd.R_nil _ _ _ _ _ | exact Kd.N_nil _ _ _ _ _ | exact Kd.V_nil _ _ _ _ _ | exact Kd.Q_nil _ _ _ _ _ | exact Kd.S_nil _ _ _ _ _⟩, ⟨by (with_reducible repeat (first | refine blk_drewN ?_ _ | refine blk_drew ?_ | refine blk_alloc ?_ _)); exact BK210101.out⟩, ⟨by (with_reducible repeat (first | refine blk_drewN ?_ _ | refine blk_drew ?_ | refine blk_alloc ?_ _)); exact BK210102.out⟩, ⟨by repeat (first | (with_reducible first | exact HB.out | apply below_alloc | apply pw_below_drewN | apply below_drew1 | refine below_set ?_ GE210101.out | refine below_set ?_ GE210102.out) | exact HB.out)⟩⟩
      · rw [if_neg c16] at H
        have c16b0 : (t210106 == 0) = false := beq_eq_false_iff_ne.mpr c16
        have c16b1 : (t210106 != 0) = true := bne_iff_ne.mpr c16
        have H' := Aside0.mk H
        clear H
        go_wp2
        go_meet
        case rel => exact ⟨_, (true), (by first | rfl | (simp; done) | (simp [*]; done)), H', ⟨by first | omega | exact Nat.le_refl _⟩, ⟨by first | exact Kd.R_nil _ _ _ _ _ | exact Kd.N_nil _ _ _ _ _ | exact Kd.V_nil _ _ _ _ _ | exact Kd.Q_nil _ _ _ _ _ | exact Kd.S_nil _ _ _ _ _⟩, ⟨by (with_reducible repeat (first | refine blk_drewN ?_ _ | refine blk_drew ?_ | refine blk_alloc ?_ _)); exact BK210101.out⟩, ⟨by (with_reducible repeat (first | refine blk_drewN ?_ _ | refine blk_drew ?_ | refine blk_alloc ?_ _)); exact BK210102.out⟩, ⟨by repeat (first | (with_reducible first | exact HB.out | apply below_alloc | apply pw_below_drewN | apply below_drew1 | refine below_set ?_ GE210101.out | refine below_set ?_ GE210102.out) | exact HB.out)⟩⟩
    · rw [if_neg c15] at H
      have c15b0 : (t210104 == 0) = false := beq_eq_false_iff_ne.mpr c15
      have c15b1 : (t210104 != 0) = true := bne_iff_ne.mpr c15
      (first | rw [c15b0] | (simp only [i64_w, i32_w]; rw [c15b0]) | skip)
      have H' := Aside0.mk H
      clear H
      go_wp2
      go_meet
      case rel => exact ⟨_, (true), (by first | rfl | (simp; done) | (simp [*]; done)), H', ⟨by first | omega | exact Nat.le_refl _⟩, ⟨by first | exact Kd.R_nil _ _ _ _ _ | exact Kd.N_nil _ _ _ _ _ | exact Kd.V_nil _ _ _ _ _ | exact Kd.Q_nil _ _ _ _ _ | exact Kd.S_nil _ _ _ _ _⟩, ⟨by (with_reducible repeat (first | refine blk_drewN ?_ _ | refine blk_drew ?_ | refine blk_alloc ?_ _)); exact BK210101.out⟩, ⟨by (with_reducible repeat (first | refine blk_drewN ?_ _ | refine blk_drew ?_ | refine blk_alloc ?_ _)); exact BK210102.out⟩, ⟨by repeat (first | (with_reducible first | exact HB.out | apply below_alloc | apply pw_below_drewN | apply below_drew1 | refine below_set ?_ GE210101.out | refine below_set ?_ GE210102.out) | exact HB.out)⟩⟩
  case rest =>
    clear HC7
    try clear c1
    try clear c2
    try clear p2
    try clear c10
    try clear c14
    try clear c15
    try clear c15b0
    try clear c15b1
    try clear c16
    try clear c16b0
    try clear c16b1
    try clear hcz11_0
    try clear hcz11_1
    try clear hcz11_2
    try clear hcz13_0
    try clear hcz13_1
    try clear hcz13_2
    try clear hfz11_0
    try clear hfz11_1
    try clear hfz11_2
    try clear hfz13_0
    try clear hfz13_1
    try clear hfz13_2
    obtain ⟨kq, x35_6, rfl, HA, HJ6, HO_9, BK210101, BK210102, HB⟩ := hcut
    cases kq with
    | zero => exact absurd HA.out (by simp [larderref03_List.j0])
    | succ kj6 =>
      have H := HA.out
      clear HA
      simp only [larderref03_List.j0] at H
      by_cases c17 : x35_6 = true
      · subst c17
        have H1 : (some ([] : List (S23))) = some r := by rw [if_pos rfl] at H; exact H
        clear H
        have H := H1
        clear H1
        obtain rfl := Option.some.inj H
        go_wp2
        go_ret
        exact ⟨_, by first | rfl | (simp [errW_none, errW_some] <;> rfl) | (simp [*, errW_none, errW_some] <;> rfl), by (with_reducible repeat (first | apply Kd.R_alloc | apply Kd.R_drewN | apply Kd.R_drew)); exact Kd.R_mono HO_9.out (fun _ hk => trivial), by repeat (first | (with_reducible first | exact HB.out | apply below_alloc | apply pw_below_drewN | apply below_drew1 | refine below_set ?_ GE210101.out | refine below_set ?_ GE210102.out) | exact HB.out)⟩
      · replace c17 := Bool.eq_false_iff.mpr c17
        subst c17
        have H1 : (if a2 > 3652425 then (larderref03_List.j1 kj6 3652425 a3 ([] : List (S23)) t210103 t210105) else (larderref03_List.j1 kj6 a2 a3 ([] : List (S23)) t210103 t210105)) = some r := by rw [if_neg (show ¬ (false = true) by decide)] at H; exact H
        clear H
        have H := H1
        clear H1
        have HC18 := Aside0.mk H
        clear H
        go_upto_if 38 with (fail)
        go_cut [2] (fun v2 wc => ∃ (kq : Nat) (x2_17 : Int), v2 = .int .i64 x2_17 ∧ Aside0 (larderref03_List.j1 kq x2_17 a3 ([] : List (S23)) t210103 t210105 = some r) ∧ Aside0 (kq ≤ kj6) ∧ Aside0 (Kd.R k23 23 wc w.heap.size (fun k_ => k_ ≠ gb210101 ∧ k_ ≠ gb210102) (.slice none 0 0) ([] : List (S23))) ∧ Aside0 (wc.heap[gb210101]? = some (.cells #[.int .i64 a0_0, .int .i64 a0_1, .int .i64 a0_2] 23 (0, 0))) ∧ Aside0 (wc.heap[gb210102]? = some (.cells #[.int .i64 a1_0, .int .i64 a1_1, .int .i64 a1_2] 23 (0, 0))) ∧ Aside0 (Below w.heap.size w wc))
        case first =>
          have H := HC18.out
          clear HC18
          by_cases c19 : a2 > 3652425
          · rw [if_pos c19] at H
            have c19b0 : decide (3652425 < a2) = true := decide_eq_true c19
            clear c19
            (first | rw [c19b0] | (simp only [i64_w, i32_w]; rw [c19b0]) | skip)
            have H' := Aside0.mk H
            clear H
            go_wp2
            go_meet
            case rel => exact ⟨_, (3652425), (by first | rfl | (simp; done) | (simp [*]; done)), H', ⟨by have := HJ6.out; first | omega | exact Nat.le_refl _⟩, ⟨by (with_reducible repeat (first | apply Kd.R_alloc | apply Kd.R_drewN | apply Kd.R_drew)); exact HO_9.out⟩, ⟨by (with_reducible repeat (first | refine blk_drewN ?_ _ | refine blk_drew ?_ | refine blk_alloc ?_ _)); exact BK210101.out⟩, ⟨by (with_reducible repeat (first | refine blk_drewN ?_ _ | refine blk_drew ?_ | refine blk_alloc ?_ _)); exact BK210102.out⟩, ⟨by repeat (first | (with_reducible first | exact HB.out | apply below_alloc | apply pw_below_drewN | apply below_drew1 | refine below_set ?_ GE210101.out | refine below_set ?_ GE210102.out) | exact HB.out)⟩⟩
          · rw [if_neg c19] at H
            have c19b0 : decide (3652425 < a2) = false := decide_eq_false c19
            clear c19
            (first | rw [c19b0] | (simp only [i64_w, i32_w]; rw [c19b0]) | skip)
            have H' := Aside0.mk H
            clear H
            go_wp2
            go_meet
            case rel => exact ⟨_, (a2), (by first | rfl | (simp; done) | (simp [*]; done)), H', ⟨by have := HJ6.out; first | omega | exact Nat.le_refl _⟩, ⟨by (with_reducible repeat (first | apply Kd.R_alloc | apply Kd.R_drewN | apply Kd.R_drew)); exact HO_9.out⟩, ⟨by (with_reducible repeat (first | refine blk_drewN ?_ _ | refine blk_drew ?_ | refine blk_alloc ?_ _)); exact BK210101.out⟩, ⟨by (with_reducible repeat (first | refine blk_drewN ?_ _ | refine blk_drew ?_ | refine blk_alloc ?_ _)); exact BK210102.out⟩, ⟨by repeat (first | (with_reducible first | exact HB.out | apply below_alloc | apply pw_below_drewN | apply below_drew1 | refine below_set ?_ GE210101.out | refine below_set ?_ GE210102.out) | exact HB.out)⟩⟩
        case rest =>
          clear HC18
          try clear c1
          try clear c2
          try clear p2
          try clear c10
          try clear c14
          try clear c15
          try clear c15b0
          try clear c15b1
          try clear c16
          try clear c16b0
          try clear c16b1
          try clear c17
          try clear c19
          try clear c19b0
          try clear hcz11_0
          try clear hcz11_1
          try clear hcz11_2
          try clear hcz13_0
          try clear hcz13_1
          try clear hcz13_2
          try clear hfz11_0
          try clear hfz11_1
          try clear hfz11_2
          try clear hfz13_0
          try clear hfz13_1
          try clear hfz13_2
          try clear p2
          obtain ⟨kq, x2_17, rfl, HA, HJ17, HO_9, BK210101, BK210102, HB⟩ := hcut
          cases kq with
          | zero => exact absurd HA.out (by simp [larderref03_List.j1])
          | succ kj17 =>
            have H := HA.out
            clear HA
            simp only [larderref03_List.j1] at H
            have HC20 := Aside0.mk H
            clear H
            go_upto_if 40 with (fail)
            go_cut [2] (fun v2 wc => ∃ (kq : Nat) (x2_19 : Int), v2 = .int .i64 x2_19 ∧ Aside0 (larderref03_List.j2 kq x2_19 a3 ([] : List (S23)) t210103 t210105 = some r) ∧ Aside0 (kq ≤ kj17) ∧ Aside0 (Kd.R k23 23 wc w.heap.size (fun k_ => k_ ≠ gb210101 ∧ k_ ≠ gb210102) (.slice none 0 0) ([] : List (S23))) ∧ Aside0 (wc.heap[gb210101]? = some (.cells #[.int .i64 a0_0, .int .i64 a0_1, .int .i64 a0_2] 23 (0, 0))) ∧ Aside0 (wc.heap[gb210102]? = some (.cells #[.int .i64 a1_0, .int .i64 a1_1, .int .i64 a1_2] 23 (0, 0))) ∧ Aside0 (Below w.heap.size w wc))
            case first =>
              have H := HC20.out
              clear HC20
              by_cases c21 : x2_17 < (-3652425)
              · rw [if_pos c21] at H
                have c21b0 : decide (x2_17 < (-3652425)) = true := decide_eq_true c21
                clear c21
                (first | rw [c21b0] | (simp only [i64_w, i32_w]; rw [c21b0]) | skip)
                have H' := Aside0.mk H
                clear H
                go_wp2
                go_meet
                case rel => exact ⟨_, ((-3652425)), (by first | rfl | (simp; done) | (simp [*]; done)), H', ⟨by have := HJ6.out; have := HJ17.out; first | omega | exact Nat.le_refl _⟩, ⟨by (with_reducible repeat (first | apply Kd.R_alloc | apply Kd.R_drewN | apply Kd.R_drew)); exact HO_9.out⟩, ⟨by (with_reducible repeat (first | refine blk_drewN ?_ _ | refine blk_drew ?_ | refine blk_alloc ?_ _)); exact BK210101.out⟩, ⟨by (with_reducible repeat (first | refine blk_drewN ?_ _ | refine blk_drew ?_ | refine blk_alloc ?_ _)); exact BK210102.out⟩, ⟨by repeat (first | (with_reducible first | exact HB.out | apply below_alloc | apply pw_below_drewN | apply below_drew1 | refine below_set ?_ GE210101.out | refine below_set ?_ GE210102.out) | exact HB.out)⟩⟩
              · rw [if_neg c21] at H
                have c21b0 : decide (x2_17 < (-3652425)) = false := decide_eq_false c21
                clear c21
                (first | rw [c21b0] | (simp only [i64_w, i32_w]; rw [c21b0]) | skip)
                have H' := Aside0.mk H
                clear H
                go_wp2
                go_meet
                case rel => exact ⟨_, (x2_17), (by first | rfl | (simp; done) | (simp [*]; done)), H', ⟨by have := HJ6.out; have := HJ17.out; first | omega | exact Nat.le_refl _⟩, ⟨by (with_reducible repeat (first | apply Kd.R_alloc | apply Kd.R_drewN | apply Kd.R_drew)); exact HO_9.out⟩, ⟨by (with_reducible repeat (first | refine blk_drewN ?_ _ | refine blk_drew ?_ | refine blk_alloc ?_ _)); exact BK210101.out⟩, ⟨by (with_reducible repeat (first | refine blk_drewN ?_ _ | refine blk_drew ?_ | refine blk_alloc ?_ _)); exact BK210102.out⟩, ⟨by repeat (first | (with_reducible first | exact HB.out | apply below_alloc | apply pw_below_drewN | apply below_drew1 | refine below_set ?_ GE210101.out | refine below_set ?_ GE210102.out) | exact HB.out)⟩⟩
            case rest =>
              clear HC20
              try clear c1
              try clear c2
              try clear p2
              try clear c10
              try clear c14
              try clear c15
              try clear c15b0
              try clear c15b1
              try clear c16
              try clear c16b0
              try clear c16b1
              try clear c17
              try clear c19
              try clear c19b0
              try clear c21
              try clear c21b0
              try clear hcz11_0
              try clear hcz11_1
              try clear hcz11_2
              try clear hcz13_0
              try clear hcz13_1
              try clear hcz13_2
              try clear hfz11_0
              try clear hfz11_1
              try clear hfz11_2
              try clear hfz13_0
              try clear hfz13_1
              try clear hfz13_2
              try clear p2
              obtain ⟨kq, x2_19, rfl, HA, HJ19, HO_9, BK210101, BK210102, HB⟩ := hcut
              cases kq with
              | zero => exact absurd HA.out (by simp [larderref03_List.j2])
              | succ kj19 =>
                have H := HA.out
                clear HA
                simp only [larderref03_List.j2] at H
                have H' := Aside0.mk H
                clear H
                go_wp2
                go_loopg [9, 14] kj19 (fun kq v9 v14 w' => ∃ (x9_4 : List (S23)) (x14_4 : Int), v14 = .int .i64 x14_4 ∧ Aside0 (larderref03_List.l0 kq x2_19 a3 x9_4 t210105 x14_4 = some r) ∧ Aside0 (kq ≤ kj19) ∧ Aside0 (Kd.R k23 23 w' w.heap.size (fun k_ => k_ ≠ gb210101 ∧ k_ ≠ gb210102) v9 x9_4) ∧ Aside0 (w'.heap[gb210101]? = some (.cells #[.int .i64 a0_0, .int .i64 a0_1, .int .i64 a0_2] 23 (0, 0))) ∧ Aside0 (w'.heap[gb210102]? = some (.cells #[.int .i64 a1_0, .int .i64 a1_1, .int .i64 a1_2] 23 (0, 0))) ∧ Aside0 (Below w.heap.size w w'))
                case atStart => exact ⟨(([] : List (S23))), (t210103), (by first | rfl | (simp; done) | (simp [*]; done)), H', ⟨Nat.le_refl _⟩, ⟨by (with_reducible repeat (first | apply Kd.R_alloc | apply Kd.R_drewN | apply Kd.R_drew)); exact HO_9.out⟩, ⟨by (with_reducible repeat (first | refine blk_drewN ?_ _ | refine blk_drew ?_ | refine blk_alloc ?_ _)); exact BK210101.out⟩, ⟨by (with_reducible repeat (first | refine blk_drewN ?_ _ | refine blk_drew ?_ | refine blk_alloc ?_ _)); exact BK210102.out⟩, ⟨by repeat (first | (with_reducible first | exact HB.out | apply below_alloc | apply pw_below_drewN | apply below_drew1 | refine below_set ?_ GE210101.out | refine below_set ?_ GE210102.out) | exact HB.out)⟩⟩
                case round =>
                  clear H'
                  try clear c1
                  try clear c2
                  try clear p2
                  try clear c10
                  try clear c14
                  try clear c15
                  try clear c15b0
                  try clear c15b1
                  try clear c16
                  try clear c16b0
                  try clear c16b1
                  try clear c17
                  try clear c19
                  try clear c19b0
                  try clear c21
                  try clear c21b0
                  try clear hcz11_0
                  try clear hcz11_1
                  try clear hcz11_2
                  try clear hcz13_0
                  try clear hcz13_1
                  try clear hcz13_2
                  try clear hfz11_0
                  try clear hfz11_1
                  try clear hfz11_2
                  try clear hfz13_0
                  try clear hfz13_1
                  try clear hfz13_2
                  try clear p2
                  obtain ⟨x9_4, x14_4, rfl, HA, HK4, HO_9, BK210101, BK210102, HB⟩ := hrel
                  cases gk with
                  | zero => exact absurd HA.out (by simp [larderref03_List.l0])
                  | succ k4 =>
                    have H := HA.out
                    clear HA
                    simp only [larderref03_List.l0] at H
                    by_cases c22 : x14_4 ≥ 0
                    · rw [if_pos c22] at H
                      have c22b0 : decide (0 ≤ x14_4) = true := decide_eq_true c22
                      clear c22
                      by_cases c23 : x14_4 ≤ 3652424
                      · rw [if_pos c23] at H
                        have c23b0 : decide (x14_4 ≤ 3652424) = true := decide_eq_true c23
                        clear c23
                        by_cases c24 : x2_19 > 0
                        · rw [if_pos c24] at H
                          have c24b0 : decide (0 < x2_19) = true := decide_eq_true c24
                          clear c24
                          by_cases c25 : x14_4 ≤ t210105
                          · rw [if_pos c25] at H
                            have c25b0 : decide (x14_4 ≤ t210105) = true := decide_eq_true c25
                            clear c25
                            by_cases c26 : (x9_4.length : Int) < a3
                            · rw [if_pos c26] at H
                              have c26b0 : decide ((x9_4.length : Int) < a3) = true := decide_eq_true c26
                              clear c26
                              replace H := Option.bind_eq_some_iff.mp H
                              obtain ⟨⟨t210107, t210108, t210109⟩, A270, H⟩ := H
                              replace H : (if x9_4.length < 5864062014805 then (larderref03_List.l0 k4 x2_19 a3 (x9_4 ++ [(⟨t210107, t210108, t210109⟩ : S23)]) t210105 (wrap64 (x14_4 + x2_19))) else (none)) = some r := H
                              have A27 := Aside0.mk A270
                              clear A270
                              by_cases c28 : x9_4.length < 5864062014805
                              · rw [if_pos c28] at H
                                have LMc28 := Aside0.mk c28
                                clear c28
                                obtain ⟨y210111, hy210111⟩ : ∃ y_ : List (S23), y_ = (x9_4 ++ [(⟨t210107, t210108, t210109⟩ : S23)]) := ⟨_, rfl⟩
                                replace H : (larderref03_List.l0 k4 x2_19 a3 y210111 t210105 (wrap64 (x14_4 + x2_19))) = some r := by first | (rw [hy210111]; with_reducible exact H) | (have H2_ := (Option.bind_some _ _).symm.trans H; rw [hy210111]; with_reducible exact H2_) | (have H2_ := (Option.bind_some _ _).symm.trans H; with_reducible exact H2_) | with_reducible exact H | (rw [hy210111]; exact H) | exact H
                                have Ny210111 := Aside0.mk hy210111
                                clear hy210111
                                have H' := Aside0.mk H
                                clear H
                                obtain ⟨Ao29, co29, eo29⟩ := Kd.R_slice HO_9.out
                                subst eo29
                                go_wp2_with (first | ((with_reducible refine gate_callee (f := 36) rfl ?_); refine goesL_ (some 76) rfl rfl Tryd.func36 (by kernel_rfl) rfl #[.int .i64 x14_4] rfl (by (try simp only [List.map_toArray, List.map_cons, List.map_nil]); first | done | rfl | (simp only [List.length_drop, List.length_take]; rfl)) ?_; (with_reducible refine (larderref03_date.calls k4 x14_4 t210107 t210108 t210109 _ A27.out).mono ?_); rintro e w30 ⟨rfl, hb⟩; refine ⟨_, rfl, ?_⟩; have n0_ := Aside0.mk (Kd.R_below (by (with_reducible repeat (first | apply Kd.R_alloc | apply Kd.R_drewN | apply Kd.R_drew)); exact HO_9.out) hb); have n1_ := Aside0.mk (blk_below (g := gb210101) (o := .cells #[.int .i64 a0_0, .int .i64 a0_1, .int .i64 a0_2] 23 (0, 0)) (by (with_reducible repeat (first | refine blk_drewN ?_ _ | refine blk_drew ?_ | refine blk_alloc ?_ _)); exact BK210101.out) hb); have n2_ := Aside0.mk (blk_below (g := gb210102) (o := .cells #[.int .i64 a1_0, .int .i64 a1_1, .int .i64 a1_2] 23 (0, 0)) (by (with_reducible repeat (first | refine blk_drewN ?_ _ | refine blk_drew ?_ | refine blk_alloc ?_ _)); exact BK210102.out) hb); have n3_ := Aside0.mk (below_step (by repeat (first | (with_reducible first | exact HB.out | apply below_alloc | apply pw_below_drewN | apply below_drew1 | refine below_set ?_ GE210101.out | refine below_set ?_ GE210102.out) | exact HB.out)) hb); clear HO_9; clear BK210101; clear BK210102; clear HB; have HO_9 := n0_; have BK210101 := n1_; have BK210102 := n2_; have HB := n3_; clear n0_ n1_ n2_ n3_; (try clear hb); (try clear hb2); (try clear hk); (try clear hi)) | ((with_reducible refine gate_dst (N := 15) rfl ?_); refine box_event ?hg (N := 15) ?hd (cs := #[.int .i64 0, .int .i64 0, .int .i64 0]) (t := 23) ?hr ?_; (case hd => rfl); (case hg => rfl); (case hr => first | (go_simp; done) | (go_simp; rfl)); intro gb210110 hg w31 hbox hb; have n0_ := Aside0.mk (Kd.R_below (Kd.R_elderB (by (with_reducible repeat (first | apply Kd.R_alloc | apply Kd.R_drewN | apply Kd.R_drew)); exact HO_9.out) gb210110 (Nat.le_of_eq hg.symm)) hb); have n1_ := Aside0.mk (blk_below (g := gb210101) (o := .cells #[.int .i64 a0_0, .int .i64 a0_1, .int .i64 a0_2] 23 (0, 0)) (by (with_reducible repeat (first | refine blk_drewN ?_ _ | refine blk_drew ?_ | refine blk_alloc ?_ _)); exact BK210101.out) hb); have n2_ := Aside0.mk (blk_below (g := gb210102) (o := .cells #[.int .i64 a1_0, .int .i64 a1_1, .int .i64 a1_2] 23 (0, 0)) (by (with_reducible repeat (first | refine blk_drewN ?_ _ | refine blk_drew ?_ | refine blk_alloc ?_ _)); exact BK210102.out) hb); have n3_ := Aside0.mk (below_step (by repeat (first | (with_reducible first | exact HB.out | apply below_alloc | apply pw_below_drewN | apply below_drew1 | refine below_set ?_ GE210101.out | refine below_set ?_ GE210102.out) | exact HB.out)) hb); have n4_ := Aside0.mk (hbox); have n5_ := Aside0.mk ((by rw [hg]; exact (below_size (by repeat (first | (with_reducible first | exact HB.out | apply below_alloc | apply pw_below_drewN | apply below_drew1 | refine below_set ?_ GE210101.out | refine below_set ?_ GE210102.out) | exact HB.out))) : w.heap.size ≤ gb210110)); have n6_ := Aside0.mk ((by rw [hg]; exact (below_size (by repeat (first | (with_reducible first | exact HB.out | apply below_alloc | apply pw_below_drewN | apply below_drew1 | refine below_set ?_ GE210101.out | refine below_set ?_ GE210102.out) | exact HB.out))) : w.heap.size ≤ gb210110)); have n7_ := Aside0.mk ((by rw [hg]; exact Nat.ne_of_lt (blk_lt (g := gb210101) (o := .cells #[.int .i64 a0_0, .int .i64 a0_1, .int .i64 a0_2] 23 (0, 0)) (by (with_reducible repeat (first | refine blk_drewN ?_ _ | refine blk_drew ?_ | refine blk_alloc ?_ _)); exact BK210101.out)) : gb210101 ≠ gb210110)); have n8_ := Aside0.mk ((by rw [hg]; exact Nat.ne_of_gt (blk_lt (g := gb210101) (o := .cells #[.int .i64 a0_0, .int .i64 a0_1, .int .i64 a0_2] 23 (0, 0)) (by (with_reducible repeat (first | refine blk_drewN ?_ _ | refine blk_drew ?_ | refine blk_alloc ?_ _)); exact BK210101.out)) : gb210110 ≠ gb210101)); have n9_ := Aside0.mk ((by rw [hg]; exact Nat.ne_of_lt (blk_lt (g := gb210102) (o := .cells #[.int .i64 a1_0, .int .i64 a1_1, .int .i64 a1_2] 23 (0, 0)) (by (with_reducible repeat (first | refine blk_drewN ?_ _ | refine blk_drew ?_ | refine blk_alloc ?_ _)); exact BK210102.out)) : gb210102 ≠ gb210110)); have n10_ := Aside0.mk ((by rw [hg]; exact Nat.ne_of_gt (blk_lt (g := gb210102) (o := .cells #[.int .i64 a1_0, .int .i64 a1_1, .int .i64 a1_2] 23 (0, 0)) (by (with_reducible repeat (first | refine blk_drewN ?_ _ | refine blk_drew ?_ | refine blk_alloc ?_ _)); exact BK210102.out)) : gb210110 ≠ gb210102)); clear HO_9; clear BK210101; clear BK210102; clear HB; have HO_9 := n0_; have BK210101 := n1_; have BK210102 := n2_; have HB := n3_; have BK210110 := n4_; have GW210110 := n5_; have GE210110 := n6_; have NB210101_210110 := n7_; have NB210110_210101 := n8_; have NB210102_210110 := n9_; have NB210110_210102 := n10_; clear n0_ n1_ n2_ n3_ n4_ n5_ n6_ n7_ n8_ n9_ n10_; clear hb hbox hg; have hnb32 := NB210110_210101.out; have hnc32 := NB210101_210110.out; have hnb33 := NB210110_210102.out; have hnc33 := NB210102_210110.out; have hcz34_0 : w31.cell? ⟨gb210110, 0, none⟩ = some (.int .i64 0) := (blk_cell BK210110.out 0).trans rfl; have hcz34_1 : w31.cell? ⟨gb210110, 1, none⟩ = some (.int .i64 0) := (blk_cell BK210110.out 1).trans rfl; have hcz34_2 : w31.cell? ⟨gb210110, 2, none⟩ = some (.int .i64 0) := (blk_cell BK210110.out 2).trans rfl; have hfz34_0 := blk_frozen BK210110.out 0; have hfz34_1 := blk_frozen BK210110.out 1; have hfz34_2 := blk_frozen BK210110.out 2) | ((with_reducible refine gate_builtin (b := .append) (xs := #[.tmp 77, .tmp 79]) rfl ?_); at_builtin; refine Kd.R_append k23 (w0 := w) w.heap.size rfl (.tmp 77) (.tmp 79) 33 23 (.agg #[(.int .i64 0), (.int .i64 0), (.int .i64 0)]) 24 rfl Tryd.underlying33 info23 rfl (by decide) (by omega) (.slice Ao29 x9_4.length co29) x9_4 (⟨t210107, t210108, t210109⟩ : S23) [.int .i64 t210107, .int .i64 t210108, .int .i64 t210109] (fun k_ => k_ ≠ gb210101 ∧ k_ ≠ gb210102 ∧ k_ ≠ gb210110) (fun _ => False) rfl (by first | (go_simp; done) | (go_simp; rfl)) ?aP (fun _ hk => hk.elim) ?aF ?aO ?aB ?aS ?aL ?_; (case aP => exact k23_mkM _ _ _ (⟨t210107, t210108, t210109⟩ : S23)); (case aB => exact (by repeat (first | (with_reducible first | exact HB.out | apply below_alloc | apply pw_below_drewN | apply below_drew1 | refine below_set ?_ GE210101.out | refine below_set ?_ GE210102.out | refine below_set ?_ GE210110.out) | exact HB.out))); (case aF => exact (fun k_ hk => ⟨Kd.freshB (g := gb210101) (o := .cells #[.int .i64 a0_0, .int .i64 a0_1, .int .i64 a0_2] 23 (0, 0)) (by (with_reducible repeat (first | refine blk_drewN ?_ _ | refine blk_drew ?_ | refine blk_alloc ?_ _)); refine blk_far ?_ NB210101_210110.out _; (with_reducible repeat (first | refine blk_drewN ?_ _ | refine blk_drew ?_ | refine blk_alloc ?_ _)); refine blk_far ?_ NB210101_210110.out _; (with_reducible repeat (first | refine blk_drewN ?_ _ | refine blk_drew ?_ | refine blk_alloc ?_ _)); refine blk_far ?_ NB210101_210110.out _; (with_reducible repeat (first | refine blk_drewN ?_ _ | refine blk_drew ?_ | refine blk_alloc ?_ _)); exact BK210101.out) k_ hk, Kd.freshB (g := gb210102) (o := .cells #[.int .i64 a1_0, .int .i64 a1_1, .int .i64 a1_2] 23 (0, 0)) (by (with_reducible repeat (first | refine blk_drewN ?_ _ | refine blk_drew ?_ | refine blk_alloc ?_ _)); refine blk_far ?_ NB210102_210110.out _; (with_reducible repeat (first | refine blk_drewN ?_ _ | refine blk_drew ?_ | refine blk_alloc ?_ _)); refine blk_far ?_ NB210102_210110.out _; (with_reducible repeat (first | refine blk_drewN ?_ _ | refine blk_drew ?_ | refine blk_alloc ?_ _)); refine blk_far ?_ NB210102_210110.out _; (with_reducible repeat (first | refine blk_drewN ?_ _ | refine blk_drew ?_ | refine blk_alloc ?_ _)); exact BK210102.out) k_ hk, Kd.freshB (g := gb210110) (o := .cells #[.int .i64 t210107, .int .i64 t210108, .int .i64 t210109] 23 (0, 0)) (by (with_reducible repeat (first | refine blk_drewN ?_ _ | refine blk_drew ?_ | refine blk_alloc ?_ _)); refine blk_put (cs := #[.int .i64 t210107, .int .i64 t210108, .int .i64 0]) ?_ 2 _ rfl; (with_reducible repeat (first | refine blk_drewN ?_ _ | refine blk_drew ?_ | refine blk_alloc ?_ _)); refine blk_put (cs := #[.int .i64 t210107, .int .i64 0, .int .i64 0]) ?_ 1 _ rfl; (with_reducible repeat (first | refine blk_drewN ?_ _ | refine blk_drew ?_ | refine blk_alloc ?_ _)); refine blk_put (cs := #[.int .i64 0, .int .i64 0, .int .i64 0]) ?_ 0 _ rfl; (with_reducible repeat (first | refine blk_drewN ?_ _ | refine blk_drew ?_ | refine blk_alloc ?_ _)); exact BK210110.out) k_ hk⟩)); (case aO => exact (by (with_reducible repeat (first | apply Kd.R_alloc | apply Kd.R_drewN | apply Kd.R_drew)); exact Kd.R_mono (Kd.R_far (p := ⟨gb210110, 2, none⟩) (Kd.R_far (p := ⟨gb210110, 1, none⟩) (Kd.R_far (p := ⟨gb210110, 0, none⟩) (Kd.R_mono HO_9.out (fun k_ hk => (⟨hk, hk.2⟩ : _ ∧ k_ ≠ gb210110))) (fun _ hk => hk.2) (.int .i64 t210107)) (fun _ hk => hk.2) (.int .i64 t210108)) (fun _ hk => hk.2) (.int .i64 t210109)) (fun _ hk => ⟨hk.1.1.1, ⟨hk.1.1.2, hk.1.2⟩⟩))); (case aS => exact (below_size (by repeat (first | (with_reducible first | exact HB.out | apply below_alloc | apply pw_below_drewN | apply below_drew1 | refine below_set ?_ GE210101.out | refine below_set ?_ GE210102.out | refine below_set ?_ GE210110.out) | exact HB.out)))); (case aL => have := LMc28.out; omega); intro v210112 w35 ho hb hg hat; rw [← Ny210111.out] at ho; have n0_ := Aside0.mk (blk_grown (g := gb210101) (o := .cells #[.int .i64 a0_0, .int .i64 a0_1, .int .i64 a0_2] 23 (0, 0)) (by (with_reducible repeat (first | refine blk_drewN ?_ _ | refine blk_drew ?_ | refine blk_alloc ?_ _)); refine blk_far ?_ NB210101_210110.out _; (with_reducible repeat (first | refine blk_drewN ?_ _ | refine blk_drew ?_ | refine blk_alloc ?_ _)); refine blk_far ?_ NB210101_210110.out _; (with_reducible repeat (first | refine blk_drewN ?_ _ | refine blk_drew ?_ | refine blk_alloc ?_ _)); refine blk_far ?_ NB210101_210110.out _; (with_reducible repeat (first | refine blk_drewN ?_ _ | refine blk_drew ?_ | refine blk_alloc ?_ _)); exact BK210101.out) hg (Kd.R_away HO_9.out (fun _ hk => hk.1.1))); have n1_ := Aside0.mk (blk_grown (g := gb210102) (o := .cells #[.int .i64 a1_0, .int .i64 a1_1, .int .i64 a1_2] 23 (0, 0)) (by (with_reducible repeat (first | refine blk_drewN ?_ _ | refine blk_drew ?_ | refine blk_alloc ?_ _)); refine blk_far ?_ NB210102_210110.out _; (with_reducible repeat (first | refine blk_drewN ?_ _ | refine blk_drew ?_ | refine blk_alloc ?_ _)); refine blk_far ?_ NB210102_210110.out _; (with_reducible repeat (first | refine blk_drewN ?_ _ | refine blk_drew ?_ | refine blk_alloc ?_ _)); refine blk_far ?_ NB210102_210110.out _; (with_reducible repeat (first | refine blk_drewN ?_ _ | refine blk_drew ?_ | refine blk_alloc ?_ _)); exact BK210102.out) hg (Kd.R_away HO_9.out (fun _ hk => hk.1.2))); have n2_ := Aside0.mk (blk_grown (g := gb210110) (o := .cells #[.int .i64 t210107, .int .i64 t210108, .int .i64 t210109] 23 (0, 0)) (by (with_reducible repeat (first | refine blk_drewN ?_ _ | refine blk_drew ?_ | refine blk_alloc ?_ _)); refine blk_put (cs := #[.int .i64 t210107, .int .i64 t210108, .int .i64 0]) ?_ 2 _ rfl; (with_reducible repeat (first | refine blk_drewN ?_ _ | refine blk_drew ?_ | refine blk_alloc ?_ _)); refine blk_put (cs := #[.int .i64 t210107, .int .i64 0, .int .i64 0]) ?_ 1 _ rfl; (with_reducible repeat (first | refine blk_drewN ?_ _ | refine blk_drew ?_ | refine blk_alloc ?_ _)); refine blk_put (cs := #[.int .i64 0, .int .i64 0, .int .i64 0]) ?_ 0 _ rfl; (with_reducible repeat (first | refine blk_drewN ?_ _ | refine blk_drew ?_ | refine blk_alloc ?_ _)); exact BK210110.out) hg (Kd.R_away HO_9.out (fun _ hk => hk.2))); have n3_ := Aside0.mk (hb); have n4_ := Aside0.mk (ho); clear BK210101; clear BK210102; clear BK210110; clear HB; clear HO_9; have BK210101 := n0_; have BK210102 := n1_; have BK210110 := n2_; have HB := n3_; have HO210113 := n4_; clear n0_ n1_ n2_ n3_ n4_; clear ho hb hg hat))
                                go_roundg k4
                                case measure => have := HJ6.out; have := HJ17.out; have := HJ19.out; have := HK4.out; omega
                                case rel => exact ⟨(y210111), (wrap64 (x14_4 + x2_19)), (by first | rfl | (simp; done) | (simp [*]; done)), H', ⟨by have := HJ6.out; have := HJ17.out; have := HJ19.out; have := HK4.out; omega⟩, ⟨by (with_reducible repeat (first | apply Kd.R_alloc | apply Kd.R_drewN | apply Kd.R_drew)); exact Kd.R_mono HO210113.out (fun _ hk => ⟨hk.1, hk.2.1⟩)⟩, ⟨by (with_reducible repeat (first | refine blk_drewN ?_ _ | refine blk_drew ?_ | refine blk_alloc ?_ _)); exact BK210101.out⟩, ⟨by (with_reducible repeat (first | refine blk_drewN ?_ _ | refine blk_drew ?_ | refine blk_alloc ?_ _)); exact BK210102.out⟩, ⟨by repeat (first | (with_reducible first | exact HB.out | apply below_alloc | apply pw_below_drewN | apply below_drew1 | refine below_set ?_ GE210101.out | refine below_set ?_ GE210102.out | refine below_set ?_ GE210110.out) | exact HB.out)⟩⟩
                              · rw [if_neg c28] at H
                                exact absurd H (by simp)
                            · rw [if_neg c26] at H
                              have c26b0 : decide ((x9_4.length : Int) < a3) = false := decide_eq_false c26
                              clear c26
                              obtain rfl := Option.some.inj H
                              obtain ⟨Ao36, co36, eo36⟩ := Kd.R_slice HO_9.out
                              subst eo36
                              go_wp2
                              go_ret
                              exact ⟨_, by first | rfl | (simp [errW_none, errW_some] <;> rfl) | (simp [*, errW_none, errW_some] <;> rfl), by (with_reducible repeat (first | apply Kd.R_alloc | apply Kd.R_drewN | apply Kd.R_drew)); exact Kd.R_mono HO_9.out (fun _ hk => trivial), by repeat (first | (with_reducible first | exact HB.out | apply below_alloc | apply pw_below_drewN | apply below_drew1 | refine below_set ?_ GE210101.out | refine below_set ?_ GE210102.out) | exact HB.out)⟩
                          · rw [if_neg c25] at H
                            have c25b0 : decide (x14_4 ≤ t210105) = false := decide_eq_false c25
                            clear c25
                            by_cases c37 : x2_19 < 0
                            · rw [if_pos c37] at H
                              have c37b0 : decide (x2_19 < 0) = true := decide_eq_true c37
                              clear c37
                              by_cases c38 : x14_4 ≥ t210105
                              · rw [if_pos c38] at H
                                have c38b0 : decide (t210105 ≤ x14_4) = true := decide_eq_true c38
                                clear c38
                                by_cases c39 : (x9_4.length : Int) < a3
                                · rw [if_pos c39] at H
                                  have c39b0 : decide ((x9_4.length : Int) < a3) = true := decide_eq_true c39
                                  clear c39
                                  replace H := Option.bind_eq_some_iff.mp H
                                  obtain ⟨⟨t210114, t210115, t210116⟩, A400, H⟩ := H
                                  replace H : (if x9_4.length < 5864062014805 then (larderref03_List.l0 k4 x2_19 a3 (x9_4 ++ [(⟨t210114, t210115, t210116⟩ : S23)]) t210105 (wrap64 (x14_4 + x2_19))) else (none)) = some r := H
                                  have A40 := Aside0.mk A400
                                  clear A400
                                  by_cases c41 : x9_4.length < 5864062014805
                                  · rw [if_pos c41] at H
                                    have LMc41 := Aside0.mk c41
                                    clear c41
                                    obtain ⟨y210118, hy210118⟩ : ∃ y_ : List (S23), y_ = (x9_4 ++ [(⟨t210114, t210115, t210116⟩ : S23)]) := ⟨_, rfl⟩
                                    replace H : (larderref03_List.l0 k4 x2_19 a3 y210118 t210105 (wrap64 (x14_4 + x2_19))) = some r := by first | (rw [hy210118]; with_reducible exact H) | (have H2_ := (Option.bind_some _ _).symm.trans H; rw [hy210118]; with_reducible exact H2_) | (have H2_ := (Option.bind_some _ _).symm.trans H; with_reducible exact H2_) | with_reducible exact H | (rw [hy210118]; exact H) | exact H
                                    have Ny210118 := Aside0.mk hy210118
                                    clear hy210118
                                    have H' := Aside0.mk H
                                    clear H
                                    obtain ⟨Ao42, co42, eo42⟩ := Kd.R_slice HO_9.out
                                    subst eo42
                                    go_wp2_with (first | ((with_reducible refine gate_callee (f := 36) rfl ?_); refine goesL_ (some 76) rfl rfl Tryd.func36 (by kernel_rfl) rfl #[.int .i64 x14_4] rfl (by (try simp only [List.map_toArray, List.map_cons, List.map_nil]); first | done | rfl | (simp only [List.length_drop, List.length_take]; rfl)) ?_; (with_reducible refine (larderref03_date.calls k4 x14_4 t210114 t210115 t210116 _ A40.out).mono ?_); rintro e w43 ⟨rfl, hb⟩; refine ⟨_, rfl, ?_⟩; have n0_ := Aside0.mk (Kd.R_below (by (with_reducible repeat (first | apply Kd.R_alloc | apply Kd.R_drewN | apply Kd.R_drew)); exact HO_9.out) hb); have n1_ := Aside0.mk (blk_below (g := gb210101) (o := .cells #[.int .i64 a0_0, .int .i64 a0_1, .int .i64 a0_2] 23 (0, 0)) (by (with_reducible repeat (first | refine blk_drewN ?_ _ | refine blk_drew ?_ | refine blk_alloc ?_ _)); exact BK210101.out) hb); have n2_ := Aside0.mk (blk_below (g := gb210102) (o := .cells #[.int .i64 a1_0, .int .i64 a1_1, .int .i64 a1_2] 23 (0, 0)) (by (with_reducible repeat (first | refine blk_drewN ?_ _ | refine blk_drew ?_ | refine blk_alloc ?_ _)); exact BK210102.out) hb); have n3_ := Aside0.mk (below_step (by repeat (first | (with_reducible first | exact HB.out | apply below_alloc | apply pw_below_drewN | apply below_drew1 | refine below_set ?_ GE210101.out | refine below_set ?_ GE210102.out) | exact HB.out)) hb); clear HO_9; clear BK210101; clear BK210102; clear HB; have HO_9 := n0_; have BK210101 := n1_; have BK210102 := n2_; have HB := n3_; clear n0_ n1_ n2_ n3_; (try clear hb); (try clear hb2); (try clear hk); (try clear hi)) | ((with_reducible refine gate_dst (N := 15) rfl ?_); refine box_event ?hg (N := 15) ?hd (cs := #[.int .i64 0, .int .i64 0, .int .i64 0]) (t := 23) ?hr ?_; (case hd => rfl); (case hg => rfl); (case hr => first | (go_simp; done) | (go_simp; rfl)); intro gb210117 hg w44 hbox hb; have n0_ := Aside0.mk (Kd.R_below (Kd.R_elderB (by (with_reducible repeat (first | apply Kd.R_alloc | apply Kd.R_drewN | apply Kd.R_drew)); exact HO_9.out) gb210117 (Nat.le_of_eq hg.symm)) hb); have n1_ := Aside0.mk (blk_below (g := gb210101) (o := .cells #[.int .i64 a0_0, .int .i64 a0_1, .int .i64 a0_2] 23 (0, 0)) (by (with_reducible repeat (first | refine blk_drewN ?_ _ | refine blk_drew ?_ | refine blk_alloc ?_ _)); exact BK210101.out) hb); have n2_ := Aside0.mk (blk_below (g := gb210102) (o := .cells #[.int .i64 a1_0, .int .i64 a1_1, .int .i64 a1_2] 23 (0, 0)) (by (with_reducible repeat (first | refine blk_drewN ?_ _ | refine blk_drew ?_ | refine blk_alloc ?_ _)); exact BK210102.out) hb); have n3_ := Aside0.mk (below_step (by repeat (first | (with_reducible first | exact HB.out | apply below_alloc | apply pw_below_drewN | apply below_drew1 | refine below_set ?_ GE210101.out | refine below_set ?_ GE210102.out) | exact HB.out)) hb); have n4_ := Aside0.mk (hbox); have n5_ := Aside0.mk ((by rw [hg]; exact (below_size (by repeat (first | (with_reducible first | exact HB.out | apply below_alloc | apply pw_below_drewN | apply below_drew1 | refine below_set ?_ GE210101.out | refine below_set ?_ GE210102.out) | exact HB.out))) : w.heap.size ≤ gb210117)); have n6_ := Aside0.mk ((by rw [hg]; exact (below_size (by repeat (first | (with_reducible first | exact HB.out | apply below_alloc | apply pw_below_drewN | apply below_drew1 | refine below_set ?_ GE210101.out | refine below_set ?_ GE210102.out) | exact HB.out))) : w.heap.size ≤ gb210117)); have n7_ := Aside0.mk ((by rw [hg]; exact Nat.ne_of_lt (blk_lt (g := gb210101) (o := .cells #[.int .i64 a0_0, .int .i64 a0_1, .int .i64 a0_2] 23 (0, 0)) (by (with_reducible repeat (first | refine blk_drewN ?_ _ | refine blk_drew ?_ | refine blk_alloc ?_ _)); exact BK210101.out)) : gb210101 ≠ gb210117)); have n8_ := Aside0.mk ((by rw [hg]; exact Nat.ne_of_gt (blk_lt (g := gb210101) (o := .cells #[.int .i64 a0_0, .int .i64 a0_1, .int .i64 a0_2] 23 (0, 0)) (by (with_reducible repeat (first | refine blk_drewN ?_ _ | refine blk_drew ?_ | refine blk_alloc ?_ _)); exact BK210101.out)) : gb210117 ≠ gb210101)); have n9_ := Aside0.mk ((by rw [hg]; exact Nat.ne_of_lt (blk_lt (g := gb210102) (o := .cells #[.int .i64 a1_0, .int .i64 a1_1, .int .i64 a1_2] 23 (0, 0)) (by (with_reducible repeat (first | refine blk_drewN ?_ _ | refine blk_drew ?_ | refine blk_alloc ?_ _)); exact BK210102.out)) : gb210102 ≠ gb210117)); have n10_ := Aside0.mk ((by rw [hg]; exact Nat.ne_of_gt (blk_lt (g := gb210102) (o := .cells #[.int .i64 a1_0, .int .i64 a1_1, .int .i64 a1_2] 23 (0, 0)) (by (with_reducible repeat (first | refine blk_drewN ?_ _ | refine blk_drew ?_ | refine blk_alloc ?_ _)); exact BK210102.out)) : gb210117 ≠ gb210102)); clear HO_9; clear BK210101; clear BK210102; clear HB; have HO_9 := n0_; have BK210101 := n1_; have BK210102 := n2_; have HB := n3_; have BK210117 := n4_; have GW210117 := n5_; have GE210117 := n6_; have NB210101_210117 := n7_; have NB210117_210101 := n8_; have NB210102_210117 := n9_; have NB210117_210102 := n10_; clear n0_ n1_ n2_ n3_ n4_ n5_ n6_ n7_ n8_ n9_ n10_; clear hb hbox hg; have hnb45 := NB210117_210101.out; have hnc45 := NB210101_210117.out; have hnb46 := NB210117_210102.out; have hnc46 := NB210102_210117.out; have hcz47_0 : w44.cell? ⟨gb210117, 0, none⟩ = some (.int .i64 0) := (blk_cell BK210117.out 0).trans rfl; have hcz47_1 : w44.cell? ⟨gb210117, 1, none⟩ = some (.int .i64 0) := (blk_cell BK210117.out 1).trans rfl; have hcz47_2 : w44.cell? ⟨gb210117, 2, none⟩ = some (.int .i64 0) := (blk_cell BK210117.out 2).trans rfl; have hfz47_0 := blk_frozen BK210117.out 0; have hfz47_1 := blk_frozen BK210117.out 1; have hfz47_2 := blk_frozen BK210117.out 2) | ((with_reducible refine gate_builtin (b := .append) (xs := #[.tmp 77, .tmp 79]) rfl ?_); at_builtin; refine Kd.R_append k23 (w0 := w) w.heap.size rfl (.tmp 77) (.tmp 79) 33 23 (.agg #[(.int .i64 0), (.int .i64 0), (.int .i64 0)]) 24 rfl Tryd.underlying33 info23 rfl (by decide) (by omega) (.slice Ao42 x9_4.length co42) x9_4 (⟨t210114, t210115, t210116⟩ : S23) [.int .i64 t210114, .int .i64 t210115, .int .i64 t210116] (fun k_ => k_ ≠ gb210101 ∧ k_ ≠ gb210102 ∧ k_ ≠ gb210117) (fun _ => False) rfl (by first | (go_simp; done) | (go_simp; rfl)) ?aP (fun _ hk => hk.elim) ?aF ?aO ?aB ?aS ?aL ?_; (case aP => exact k23_mkM _ _ _ (⟨t210114, t210115, t210116⟩ : S23)); (case aB => exact (by repeat (first | (with_reducible first | exact HB.out | apply below_alloc | apply pw_below_drewN | apply below_drew1 | refine below_set ?_ GE210101.out | refine below_set ?_ GE210102.out | refine below_set ?_ GE210117.out) | exact HB.out))); (case aF => exact (fun k_ hk => ⟨Kd.freshB (g := gb210101) (o := .cells #[.int .i64 a0_0, .int .i64 a0_1, .int .i64 a0_2] 23 (0, 0)) (by (with_reducible repeat (first | refine blk_drewN ?_ _ | refine blk_drew ?_ | refine blk_alloc ?_ _)); refine blk_far ?_ NB210101_210117.out _; (with_reducible repeat (first | refine blk_drewN ?_ _ | refine blk_drew ?_ | refine blk_alloc ?_ _)); refine blk_far ?_ NB210101_210117.out _; (with_reducible repeat (first | refine blk_drewN ?_ _ | refine blk_drew ?_ | refine blk_alloc ?_ _)); refine blk_far ?_ NB210101_210117.out _; (with_reducible repeat (first | refine blk_drewN ?_ _ | refine blk_drew ?_ | refine blk_alloc ?_ _)); exact BK210101.out) k_ hk, Kd.freshB (g := gb210102) (o := .cells #[.int .i64 a1_0, .int .i64 a1_1, .int .i64 a1_2] 23 (0, 0)) (by (with_reducible repeat (first | refine blk_drewN ?_ _ | refine blk_drew ?_ | refine blk_alloc ?_ _)); refine blk_far ?_ NB210102_210117.out _; (with_reducible repeat (first | refine blk_drewN ?_ _ | refine blk_drew ?_ | refine blk_alloc ?_ _)); refine blk_far ?_ NB210102_210117.out _; (with_reducible repeat (first | refine blk_drewN ?_ _ | refine blk_drew ?_ | refine blk_alloc ?_ _)); refine blk_far ?_ NB210102_210117.out _; (with_reducible repeat (first | refine blk_drewN ?_ _ | refine blk_drew ?_ | refine blk_alloc ?_ _)); exact BK210102.out) k_ hk, Kd.freshB (g := gb210117) (o := .cells #[.int .i64 t210114, .int .i64 t210115, .int .i64 t210116] 23 (0, 0)) (by (with_reducible repeat (first | refine blk_drewN ?_ _ | refine blk_drew ?_ | refine blk_alloc ?_ _)); refine blk_put (cs := #[.int .i64 t210114, .int .i64 t210115, .int .i64 0]) ?_ 2 _ rfl; (with_reducible repeat (first | refine blk_drewN ?_ _ | refine blk_drew ?_ | refine blk_alloc ?_ _)); refine blk_put (cs := #[.int .i64 t210114, .int .i64 0, .int .i64 0]) ?_ 1 _ rfl; (with_reducible repeat (first | refine blk_drewN ?_ _ | refine blk_drew ?_ | refine blk_alloc ?_ _)); refine blk_put (cs := #[.int .i64 0, .int .i64 0, .int .i64 0]) ?_ 0 _ rfl; (with_reducible repeat (first | refine blk_drewN ?_ _ | refine blk_drew ?_ | refine blk_alloc ?_ _)); exact BK210117.out) k_ hk⟩)); (case aO => exact (by (with_reducible repeat (first | apply Kd.R_alloc | apply Kd.R_drewN | apply Kd.R_drew)); exact Kd.R_mono (Kd.R_far (p := ⟨gb210117, 2, none⟩) (Kd.R_far (p := ⟨gb210117, 1, none⟩) (Kd.R_far (p := ⟨gb210117, 0, none⟩) (Kd.R_mono HO_9.out (fun k_ hk => (⟨hk, hk.2⟩ : _ ∧ k_ ≠ gb210117))) (fun _ hk => hk.2) (.int .i64 t210114)) (fun _ hk => hk.2) (.int .i64 t210115)) (fun _ hk => hk.2) (.int .i64 t210116)) (fun _ hk => ⟨hk.1.1.1, ⟨hk.1.1.2, hk.1.2⟩⟩))); (case aS => exact (below_size (by repeat (first | (with_reducible first | exact HB.out | apply below_alloc | apply pw_below_drewN | apply below_drew1 | refine below_set ?_ GE210101.out | refine below_set ?_ GE210102.out | refine below_set ?_ GE210117.out) | exact HB.out)))); (case aL => have := LMc41.out; omega); intro v210119 w48 ho hb hg hat; rw [← Ny210118.out] at ho; have n0_ := Aside0.mk (blk_grown (g := gb210101) (o := .cells #[.int .i64 a0_0, .int .i64 a0_1, .int .i64 a0_2] 23 (0, 0)) (by (with_reducible repeat (first | refine blk_drewN ?_ _ | refine blk_drew ?_ | refine blk_alloc ?_ _)); refine blk_far ?_ NB210101_210117.out _; (with_reducible repeat (first | refine blk_drewN ?_ _ | refine blk_drew ?_ | refine blk_alloc ?_ _)); refine blk_far ?_ NB210101_210117.out _; (with_reducible repeat (first | refine blk_drewN ?_ _ | refine blk_drew ?_ | refine blk_alloc ?_ _)); refine blk_far ?_ NB210101_210117.out _; (with_reducible repeat (first | refine blk_drewN ?_ _ | refine blk_drew ?_ | refine blk_alloc ?_ _)); exact BK210101.out) hg (Kd.R_away HO_9.out (fun _ hk => hk.1.1))); have n1_ := Aside0.mk (blk_grown (g := gb210102) (o := .cells #[.int .i64 a1_0, .int .i64 a1_1, .int .i64 a1_2] 23 (0, 0)) (by (with_reducible repeat (first | refine blk_drewN ?_ _ | refine blk_drew ?_ | refine blk_alloc ?_ _)); refine blk_far ?_ NB210102_210117.out _; (with_reducible repeat (first | refine blk_drewN ?_ _ | refine blk_drew ?_ | refine blk_alloc ?_ _)); refine blk_far ?_ NB210102_210117.out _; (with_reducible repeat (first | refine blk_drewN ?_ _ | refine blk_drew ?_ | refine blk_alloc ?_ _)); refine blk_far ?_ NB210102_210117.out _; (with_reducible repeat (first | refine blk_drewN ?_ _ | refine blk_drew ?_ | refine blk_alloc ?_ _)); exact BK210102.out) hg (Kd.R_away HO_9.out (fun _ hk => hk.1.2))); have n2_ := Aside0.mk (blk_grown (g := gb210117) (o := .cells #[.int .i64 t210114, .int .i64 t210115, .int .i64 t210116] 23 (0, 0)) (by (with_reducible repeat (first | refine blk_drewN ?_ _ | refine blk_drew ?_ | refine blk_alloc ?_ _)); refine blk_put (cs := #[.int .i64 t210114, .int .i64 t210115, .int .i64 0]) ?_ 2 _ rfl; (with_reducible repeat (first | refine blk_drewN ?_ _ | refine blk_drew ?_ | refine blk_alloc ?_ _)); refine blk_put (cs := #[.int .i64 t210114, .int .i64 0, .int .i64 0]) ?_ 1 _ rfl; (with_reducible repeat (first | refine blk_drewN ?_ _ | refine blk_drew ?_ | refine blk_alloc ?_ _)); refine blk_put (cs := #[.int .i64 0, .int .i64 0, .int .i64 0]) ?_ 0 _ rfl; (with_reducible repeat (first | refine blk_drewN ?_ _ | refine blk_drew ?_ | refine blk_alloc ?_ _)); exact BK210117.out) hg (Kd.R_away HO_9.out (fun _ hk => hk.2))); have n3_ := Aside0.mk (hb); have n4_ := Aside0.mk (ho); clear BK210101; clear BK210102; clear BK210117; clear HB; clear HO_9; have BK210101 := n0_; have BK210102 := n1_; have BK210117 := n2_; have HB := n3_; have HO210120 := n4_; clear n0_ n1_ n2_ n3_ n4_; clear ho hb hg hat))
                                    go_roundg k4
                                    case measure => have := HJ6.out; have := HJ17.out; have := HJ19.out; have := HK4.out; omega
                                    case rel => exact ⟨(y210118), (wrap64 (x14_4 + x2_19)), (by first | rfl | (simp; done) | (simp [*]; done)), H', ⟨by have := HJ6.out; have := HJ17.out; have := HJ19.out; have := HK4.out; omega⟩, ⟨by (with_reducible repeat (first | apply Kd.R_alloc | apply Kd.R_drewN | apply Kd.R_drew)); exact Kd.R_mono HO210120.out (fun _ hk => ⟨hk.1, hk.2.1⟩)⟩, ⟨by (with_reducible repeat (first | refine blk_drewN ?_ _ | refine blk_drew ?_ | refine blk_alloc ?_ _)); exact BK210101.out⟩, ⟨by (with_reducible repeat (first | refine blk_drewN ?_ _ | refine blk_drew ?_ | refine blk_alloc ?_ _)); exact BK210102.out⟩, ⟨by repeat (first | (with_reducible first | exact HB.out | apply below_alloc | apply pw_below_drewN | apply below_drew1 | refine below_set ?_ GE210101.out | refine below_set ?_ GE210102.out | refine below_set ?_ GE210117.out) | exact HB.out)⟩⟩
                                  · rw [if_neg c41] at H
                                    exact absurd H (by simp)
                                · rw [if_neg c39] at H
                                  have c39b0 : decide ((x9_4.length : Int) < a3) = false := decide_eq_false c39
                                  clear c39
                                  obtain rfl := Option.some.inj H
                                  obtain ⟨Ao49, co49, eo49⟩ := Kd.R_slice HO_9.out
                                  subst eo49
                                  go_wp2
                                  go_ret
                                  exact ⟨_, by first | rfl | (simp [errW_none, errW_some] <;> rfl) | (simp [*, errW_none, errW_some] <;> rfl), by (with_reducible repeat (first | apply Kd.R_alloc | apply Kd.R_drewN | apply Kd.R_drew)); exact Kd.R_mono HO_9.out (fun _ hk => trivial), by repeat (first | (with_reducible first | exact HB.out | apply below_alloc | apply pw_below_drewN | apply below_drew1 | refine below_set ?_ GE210101.out | refine below_set ?_ GE210102.out) | exact HB.out)⟩
                              · rw [if_neg c38] at H
                                have c38b0 : decide (t210105 ≤ x14_4) = false := decide_eq_false c38
                                clear c38
                                obtain rfl := Option.some.inj H
                                go_wp2
                                go_ret
                                exact ⟨_, by first | rfl | (simp [errW_none, errW_some] <;> rfl) | (simp [*, errW_none, errW_some] <;> rfl), by (with_reducible repeat (first | apply Kd.R_alloc | apply Kd.R_drewN | apply Kd.R_drew)); exact Kd.R_mono HO_9.out (fun _ hk => trivial), by repeat (first | (with_reducible first | exact HB.out | apply below_alloc | apply pw_below_drewN | apply below_drew1 | refine below_set ?_ GE210101.out | refine below_set ?_ GE210102.out) | exact HB.out)⟩
                            · rw [if_neg c37] at H
                              have c37b0 : decide (x2_19 < 0) = false := decide_eq_false c37
                              clear c37
                              obtain rfl := Option.some.inj H
                              go_wp2
                              go_ret
                              exact ⟨_, by first | rfl | (simp [errW_none, errW_some] <;> rfl) | (simp [*, errW_none, errW_some] <;> rfl), by (with_reducible repeat (first | apply Kd.R_alloc | apply Kd.R_drewN | apply Kd.R_drew)); exact Kd.R_mono HO_9.out (fun _ hk => trivial), by repeat (first | (with_reducible first | exact HB.out | apply below_alloc | apply pw_below_drewN | apply below_drew1 | refine below_set ?_ GE210101.out | refine below_set ?_ GE210102.out) | exact HB.out)⟩
                        · rw [if_neg c24] at H
                          have c24b0 : decide (0 < x2_19) = false := decide_eq_false c24
                          clear c24
                          by_cases c50 : x2_19 < 0
                          · rw [if_pos c50] at H
                            have c50b0 : decide (x2_19 < 0) = true := decide_eq_true c50
                            clear c50
                            by_cases c51 : x14_4 ≥ t210105
                            · rw [if_pos c51] at H
                              have c51b0 : decide (t210105 ≤ x14_4) = true := decide_eq_true c51
                              clear c51
                              by_cases c52 : (x9_4.length : Int) < a3
                              · rw [if_pos c52] at H
                                have c52b0 : decide ((x9_4.length : Int) < a3) = true := decide_eq_true c52
                                clear c52
                                replace H := Option.bind_eq_some_iff.mp H
                                obtain ⟨⟨t210121, t210122, t210123⟩, A530, H⟩ := H
                                replace H : (if x9_4.length < 5864062014805 then (larderref03_List.l0 k4 x2_19 a3 (x9_4 ++ [(⟨t210121, t210122, t210123⟩ : S23)]) t210105 (wrap64 (x14_4 + x2_19))) else (none)) = some r := H
                                have A53 := Aside0.mk A530
                                clear A530
                                by_cases c54 : x9_4.length < 5864062014805
                                · rw [if_pos c54] at H
                                  have LMc54 := Aside0.mk c54
                                  clear c54
                                  obtain ⟨y210125, hy210125⟩ : ∃ y_ : List (S23), y_ = (x9_4 ++ [(⟨t210121, t210122, t210123⟩ : S23)]) := ⟨_, rfl⟩
                                  replace H : (larderref03_List.l0 k4 x2_19 a3 y210125 t210105 (wrap64 (x14_4 + x2_19))) = some r := by first | (rw [hy210125]; with_reducible exact H) | (have H2_ := (Option.bind_some _ _).symm.trans H; rw [hy210125]; with_reducible exact H2_) | (have H2_ := (Option.bind_some _ _).symm.trans H; with_reducible exact H2_) | with_reducible exact H | (rw [hy210125]; exact H) | exact H
                                  have Ny210125 := Aside0.mk hy210125
                                  clear hy210125
                                  have H' := Aside0.mk H
                                  clear H
                                  obtain ⟨Ao55, co55, eo55⟩ := Kd.R_slice HO_9.out
                                  subst eo55
                                  go_wp2_with (first | ((with_reducible refine gate_callee (f := 36) rfl ?_); refine goesL_ (some 76) rfl rfl Tryd.func36 (by kernel_rfl) rfl #[.int .i64 x14_4] rfl (by (try simp only [List.map_toArray, List.map_cons, List.map_nil]); first | done | rfl | (simp only [List.length_drop, List.length_take]; rfl)) ?_; (with_reducible refine (larderref03_date.calls k4 x14_4 t210121 t210122 t210123 _ A53.out).mono ?_); rintro e w56 ⟨rfl, hb⟩; refine ⟨_, rfl, ?_⟩; have n0_ := Aside0.mk (Kd.R_below (by (with_reducible repeat (first | apply Kd.R_alloc | apply Kd.R_drewN | apply Kd.R_drew)); exact HO_9.out) hb); have n1_ := Aside0.mk (blk_below (g := gb210101) (o := .cells #[.int .i64 a0_0, .int .i64 a0_1, .int .i64 a0_2] 23 (0, 0)) (by (with_reducible repeat (first | refine blk_drewN ?_ _ | refine blk_drew ?_ | refine blk_alloc ?_ _)); exact BK210101.out) hb); have n2_ := Aside0.mk (blk_below (g := gb210102) (o := .cells #[.int .i64 a1_0, .int .i64 a1_1, .int .i64 a1_2] 23 (0, 0)) (by (with_reducible repeat (first | refine blk_drewN ?_ _ | refine blk_drew ?_ | refine blk_alloc ?_ _)); exact BK210102.out) hb); have n3_ := Aside0.mk (below_step (by repeat (first | (with_reducible first | exact HB.out | apply below_alloc | apply pw_below_drewN | apply below_drew1 | refine below_set ?_ GE210101.out | refine below_set ?_ GE210102.out) | exact HB.out)) hb); clear HO_9; clear BK210101; clear BK210102; clear HB; have HO_9 := n0_; have BK210101 := n1_; have BK210102 := n2_; have HB := n3_; clear n0_ n1_ n2_ n3_; (try clear hb); (try clear hb2); (try clear hk); (try clear hi)) | ((with_reducible refine gate_dst (N := 15) rfl ?_); refine box_event ?hg (N := 15) ?hd (cs := #[.int .i64 0, .int .i64 0, .int .i64 0]) (t := 23) ?hr ?_; (case hd => rfl); (case hg => rfl); (case hr => first | (go_simp; done) | (go_simp; rfl)); intro gb210124 hg w57 hbox hb; have n0_ := Aside0.mk (Kd.R_below (Kd.R_elderB (by (with_reducible repeat (first | apply Kd.R_alloc | apply Kd.R_drewN | apply Kd.R_drew)); exact HO_9.out) gb210124 (Nat.le_of_eq hg.symm)) hb); have n1_ := Aside0.mk (blk_below (g := gb210101) (o := .cells #[.int .i64 a0_0, .int .i64 a0_1, .int .i64 a0_2] 23 (0, 0)) (by (with_reducible repeat (first | refine blk_drewN ?_ _ | refine blk_drew ?_ | refine blk_alloc ?_ _)); exact BK210101.out) hb); have n2_ := Aside0.mk (blk_below (g := gb210102) (o := .cells #[.int .i64 a1_0, .int .i64 a1_1, .int .i64 a1_2] 23 (0, 0)) (by (with_reducible repeat (first | refine blk_drewN ?_ _ | refine blk_drew ?_ | refine blk_alloc ?_ _)); exact BK210102.out) hb); have n3_ := Aside0.mk (below_step (by repeat (first | (with_reducible first | exact HB.out | apply below_alloc | apply pw_below_drewN | apply below_drew1 | refine below_set ?_ GE210101.out | refine below_set ?_ GE210102.out) | exact HB.out)) hb); have n4_ := Aside0.mk (hbox); have n5_ := Aside0.mk ((by rw [hg]; exact (below_size (by repeat (first | (with_reducible first | exact HB.out | apply below_alloc | apply pw_below_drewN | apply below_drew1 | refine below_set ?_ GE210101.out | refine below_set ?_ GE210102.out) | exact HB.out))) : w.heap.size ≤ gb210124)); have n6_ := Aside0.mk ((by rw [hg]; exact (below_size (by repeat (first | (with_reducible first | exact HB.out | apply below_alloc | apply pw_below_drewN | apply below_drew1 | refine below_set ?_ GE210101.out | refine below_set ?_ GE210102.out) | exact HB.out))) : w.heap.size ≤ gb210124)); have n7_ := Aside0.mk ((by rw [hg]; exact Nat.ne_of_lt (blk_lt (g := gb210101) (o := .cells #[.int .i64 a0_0, .int .i64 a0_1, .int .i64 a0_2] 23 (0, 0)) (by (with_reducible repeat (first | refine blk_drewN ?_ _ | refine blk_drew ?_ | refine blk_alloc ?_ _)); exact BK210101.out)) : gb210101 ≠ gb210124)); have n8_ := Aside0.mk ((by rw [hg]; exact Nat.ne_of_gt (blk_lt (g := gb210101) (o := .cells #[.int .i64 a0_0, .int .i64 a0_1, .int .i64 a0_2] 23 (0, 0)) (by (with_reducible repeat (first | refine blk_drewN ?_ _ | refine blk_drew ?_ | refine blk_alloc ?_ _)); exact BK210101.out)) : gb210124 ≠ gb210101)); have n9_ := Aside0.mk ((by rw [hg]; exact Nat.ne_of_lt (blk_lt (g := gb210102) (o := .cells #[.int .i64 a1_0, .int .i64 a1_1, .int .i64 a1_2] 23 (0, 0)) (by (with_reducible repeat (first | refine blk_drewN ?_ _ | refine blk_drew ?_ | refine blk_alloc ?_ _)); exact BK210102.out)) : gb210102 ≠ gb210124)); have n10_ := Aside0.mk ((by rw [hg]; exact Nat.ne_of_gt (blk_lt (g := gb210102) (o := .cells #[.int .i64 a1_0, .int .i64 a1_1, .int .i64 a1_2] 23 (0, 0)) (by (with_reducible repeat (first | refine blk_drewN ?_ _ | refine blk_drew ?_ | refine blk_alloc ?_ _)); exact BK210102.out)) : gb210124 ≠ gb210102)); clear HO_9; clear BK210101; clear BK210102; clear HB; have HO_9 := n0_; have BK210101 := n1_; have BK210102 := n2_; have HB := n3_; have BK210124 := n4_; have GW210124 := n5_; have GE210124 := n6_; have NB210101_210124 := n7_; have NB210124_210101 := n8_; have NB210102_210124 := n9_; have NB210124_210102 := n10_; clear n0_ n1_ n2_ n3_ n4_ n5_ n6_ n7_ n8_ n9_ n10_; clear hb hbox hg; have hnb58 := NB210124_210101.out; have hnc58 := NB210101_210124.out; have hnb59 := NB210124_210102.out; have hnc59 := NB210102_210124.out; have hcz60_0 : w57.cell? ⟨gb210124, 0, none⟩ = some (.int .i64 0) := (blk_cell BK210124.out 0).trans rfl; have hcz60_1 : w57.cell? ⟨gb210124, 1, none⟩ = some (.int .i64 0) := (blk_cell BK210124.out 1).trans rfl; have hcz60_2 : w57.cell? ⟨gb210124, 2, none⟩ = some (.int .i64 0) := (blk_cell BK210124.out 2).trans rfl; have hfz60_0 := blk_frozen BK210124.out 0; have hfz60_1 := blk_frozen BK210124.out 1; have hfz60_2 := blk_frozen BK210124.out 2) | ((with_reducible refine gate_builtin (b := .append) (xs := #[.tmp 77, .tmp 79]) rfl ?_); at_builtin; refine Kd.R_append k23 (w0 := w) w.heap.size rfl (.tmp 77) (.tmp 79) 33 23 (.agg #[(.int .i64 0), (.int .i64 0), (.int .i64 0)]) 24 rfl Tryd.underlying33 info23 rfl (by decide) (by omega) (.slice Ao55 x9_4.length co55) x9_4 (⟨t210121, t210122, t210123⟩ : S23) [.int .i64 t210121, .int .i64 t210122, .int .i64 t210123] (fun k_ => k_ ≠ gb210101 ∧ k_ ≠ gb210102 ∧ k_ ≠ gb210124) (fun _ => False) rfl (by first | (go_simp; done) | (go_simp; rfl)) ?aP (fun _ hk => hk.elim) ?aF ?aO ?aB ?aS ?aL ?_; (case aP => exact k23_mkM _ _ _ (⟨t210121, t210122, t210123⟩ : S23)); (case aB => exact (by repeat (first | (with_reducible first | exact HB.out | apply below_alloc | apply pw_below_drewN | apply below_drew1 | refine below_set ?_ GE210101.out | refine below_set ?_ GE210102.out | refine below_set ?_ GE210124.out) | exact HB.out))); (case aF => exact (fun k_ hk => ⟨Kd.freshB (g := gb210101) (o := .cells #[.int .i64 a0_0, .int .i64 a0_1, .int .i64 a0_2] 23 (0, 0)) (by (with_reducible repeat (first | refine blk_drewN ?_ _ | refine blk_drew ?_ | refine blk_alloc ?_ _)); refine blk_far ?_ NB210101_210124.out _; (with_reducible repeat (first | refine blk_drewN ?_ _ | refine blk_drew ?_ | refine blk_alloc ?_ _)); refine blk_far ?_ NB210101_210124.out _; (with_reducible repeat (first | refine blk_drewN ?_ _ | refine blk_drew ?_ | refine blk_alloc ?_ _)); refine blk_far ?_ NB210101_210124.out _; (with_reducible repeat (first | refine blk_drewN ?_ _ | refine blk_drew ?_ | refine blk_alloc ?_ _)); exact BK210101.out) k_ hk, Kd.freshB (g := gb210102) (o := .cells #[.int .i64 a1_0, .int .i64 a1_1, .int .i64 a1_2] 23 (0, 0)) (by (with_reducible repeat (first | refine blk_drewN ?_ _ | refine blk_drew ?_ | refine blk_alloc ?_ _)); refine blk_far ?_ NB210102_210124.out _; (with_reducible repeat (first | refine blk_drewN ?_ _ | refine blk_drew ?_ | refine blk_alloc ?_ _)); refine blk_far ?_ NB210102_210124.out _; (with_reducible repeat (first | refine blk_drewN ?_ _ | refine blk_drew ?_ | refine blk_alloc ?_ _)); refine blk_far ?_ NB210102_210124.out _; (with_reducible repeat (first | refine blk_drewN ?_ _ | refine blk_drew ?_ | refine blk_alloc ?_ _)); exact BK210102.out) k_ hk, Kd.freshB (g := gb210124) (o := .cells #[.int .i64 t210121, .int .i64 t210122, .int .i64 t210123] 23 (0, 0)) (by (with_reducible repeat (first | refine blk_drewN ?_ _ | refine blk_drew ?_ | refine blk_alloc ?_ _)); refine blk_put (cs := #[.int .i64 t210121, .int .i64 t210122, .int .i64 0]) ?_ 2 _ rfl; (with_reducible repeat (first | refine blk_drewN ?_ _ | refine blk_drew ?_ | refine blk_alloc ?_ _)); refine blk_put (cs := #[.int .i64 t210121, .int .i64 0, .int .i64 0]) ?_ 1 _ rfl; (with_reducible repeat (first | refine blk_drewN ?_ _ | refine blk_drew ?_ | refine blk_alloc ?_ _)); refine blk_put (cs := #[.int .i64 0, .int .i64 0, .int .i64 0]) ?_ 0 _ rfl; (with_reducible repeat (first | refine blk_drewN ?_ _ | refine blk_drew ?_ | refine blk_alloc ?_ _)); exact BK210124.out) k_ hk⟩)); (case aO => exact (by (with_reducible repeat (first | apply Kd.R_alloc | apply Kd.R_drewN | apply Kd.R_drew)); exact Kd.R_mono (Kd.R_far (p := ⟨gb210124, 2, none⟩) (Kd.R_far (p := ⟨gb210124, 1, none⟩) (Kd.R_far (p := ⟨gb210124, 0, none⟩) (Kd.R_mono HO_9.out (fun k_ hk => (⟨hk, hk.2⟩ : _ ∧ k_ ≠ gb210124))) (fun _ hk => hk.2) (.int .i64 t210121)) (fun _ hk => hk.2) (.int .i64 t210122)) (fun _ hk => hk.2) (.int .i64 t210123)) (fun _ hk => ⟨hk.1.1.1, ⟨hk.1.1.2, hk.1.2⟩⟩))); (case aS => exact (below_size (by repeat (first | (with_reducible first | exact HB.out | apply below_alloc | apply pw_below_drewN | apply below_drew1 | refine below_set ?_ GE210101.out | refine below_set ?_ GE210102.out | refine below_set ?_ GE210124.out) | exact HB.out)))); (case aL => have := LMc54.out; omega); intro v210126 w61 ho hb hg hat; rw [← Ny210125.out] at ho; have n0_ := Aside0.mk (blk_grown (g := gb210101) (o := .cells #[.int .i64 a0_0, .int .i64 a0_1, .int .i64 a0_2] 23 (0, 0)) (by (with_reducible repeat (first | refine blk_drewN ?_ _ | refine blk_drew ?_ | refine blk_alloc ?_ _)); refine blk_far ?_ NB210101_210124.out _; (with_reducible repeat (first | refine blk_drewN ?_ _ | refine blk_drew ?_ | refine blk_alloc ?_ _)); refine blk_far ?_ NB210101_210124.out _; (with_reducible repeat (first | refine blk_drewN ?_ _ | refine blk_drew ?_ | refine blk_alloc ?_ _)); refine blk_far ?_ NB210101_210124.out _; (with_reducible repeat (first | refine blk_drewN ?_ _ | refine blk_drew ?_ | refine blk_alloc ?_ _)); exact BK210101.out) hg (Kd.R_away HO_9.out (fun _ hk => hk.1.1))); have n1_ := Aside0.mk (blk_grown (g := gb210102) (o := .cells #[.int .i64 a1_0, .int .i64 a1_1, .int .i64 a1_2] 23 (0, 0)) (by (with_reducible repeat (first | refine blk_drewN ?_ _ | refine blk_drew ?_ | refine blk_alloc ?_ _)); refine blk_far ?_ NB210102_210124.out _; (with_reducible repeat (first | refine blk_drewN ?_ _ | refine blk_drew ?_ | refine blk_alloc ?_ _)); refine blk_far ?_ NB210102_210124.out _; (with_reducible repeat (first | refine blk_drewN ?_ _ | refine blk_drew ?_ | refine blk_alloc ?_ _)); refine blk_far ?_ NB210102_210124.out _; (with_reducible repeat (first | refine blk_drewN ?_ _ | refine blk_drew ?_ | refine blk_alloc ?_ _)); exact BK210102.out) hg (Kd.R_away HO_9.out (fun _ hk => hk.1.2))); have n2_ := Aside0.mk (blk_grown (g := gb210124) (o := .cells #[.int .i64 t210121, .int .i64 t210122, .int .i64 t210123] 23 (0, 0)) (by (with_reducible repeat (first | refine blk_drewN ?_ _ | refine blk_drew ?_ | refine blk_alloc ?_ _)); refine blk_put (cs := #[.int .i64 t210121, .int .i64 t210122, .int .i64 0]) ?_ 2 _ rfl; (with_reducible repeat (first | refine blk_drewN ?_ _ | refine blk_drew ?_ | refine blk_alloc ?_ _)); refine blk_put (cs := #[.int .i64 t210121, .int .i64 0, .int .i64 0]) ?_ 1 _ rfl; (with_reducible repeat (first | refine blk_drewN ?_ _ | refine blk_drew ?_ | refine blk_alloc ?_ _)); refine blk_put (cs := #[.int .i64 0, .int .i64 0, .int .i64 0]) ?_ 0 _ rfl; (with_reducible repeat (first | refine blk_drewN ?_ _ | refine blk_drew ?_ | refine blk_alloc ?_ _)); exact BK210124.out) hg (Kd.R_away HO_9.out (fun _ hk => hk.2))); have n3_ := Aside0.mk (hb); have n4_ := Aside0.mk (ho); clear BK210101; clear BK210102; clear BK210124; clear HB; clear HO_9; have BK210101 := n0_; have BK210102 := n1_; have BK210124 := n2_; have HB := n3_; have HO210127 := n4_; clear n0_ n1_ n2_ n3_ n4_; clear ho hb hg hat))
                                  go_roundg k4
                                  case measure => have := HJ6.out; have := HJ17.out; have := HJ19.out; have := HK4.out; omega
                                  case rel => exact ⟨(y210125), (wrap64 (x14_4 + x2_19)), (by first | rfl | (simp; done) | (simp [*]; done)), H', ⟨by have := HJ6.out; have := HJ17.out; have := HJ19.out; have := HK4.out; omega⟩, ⟨by (with_reducible repeat (first | apply Kd.R_alloc | apply Kd.R_drewN | apply Kd.R_drew)); exact Kd.R_mono HO210127.out (fun _ hk => ⟨hk.1, hk.2.1⟩)⟩, ⟨by (with_reducible repeat (first | refine blk_drewN ?_ _ | refine blk_drew ?_ | refine blk_alloc ?_ _)); exact BK210101.out⟩, ⟨by (with_reducible repeat (first | refine blk_drewN ?_ _ | refine blk_drew ?_ | refine blk_alloc ?_ _)); exact BK210102.out⟩, ⟨by repeat (first | (with_reducible first | exact HB.out | apply below_alloc | apply pw_below_drewN | apply below_drew1 | refine below_set ?_ GE210101.out | refine below_set ?_ GE210102.out | refine below_set ?_ GE210124.out) | exact HB.out)⟩⟩
                                · rw [if_neg c54] at H
                                  exact absurd H (by simp)
                              · rw [if_neg c52] at H
                                have c52b0 : decide ((x9_4.length : Int) < a3) = false := decide_eq_false c52
                                clear c52
                                obtain rfl := Option.some.inj H
                                obtain ⟨Ao62, co62, eo62⟩ := Kd.R_slice HO_9.out
                                subst eo62
                                go_wp2
                                go_ret
                                exact ⟨_, by first | rfl | (simp [errW_none, errW_some] <;> rfl) | (simp [*, errW_none, errW_some] <;> rfl), by (with_reducible repeat (first | apply Kd.R_alloc | apply Kd.R_drewN | apply Kd.R_drew)); exact Kd.R_mono HO_9.out (fun _ hk => trivial), by repeat (first | (with_reducible first | exact HB.out | apply below_alloc | apply pw_below_drewN | apply below_drew1 | refine below_set ?_ GE210101.out | refine below_set ?_ GE210102.out) | exact HB.out)⟩
                            · rw [if_neg c51] at H
                              have c51b0 : decide (t210105 ≤ x14_4) = false := decide_eq_false c51
                              clear c51
                              obtain rfl := Option.some.inj H
                              go_wp2
                              go_ret
                              exact ⟨_, by first | rfl | (simp [errW_none, errW_some] <;> rfl) | (simp [*, errW_none, errW_some] <;> rfl), by (with_reducible repeat (first | apply Kd.R_alloc | apply Kd.R_drewN | apply Kd.R_drew)); exact Kd.R_mono HO_9.out (fun _ hk => trivial), by repeat (first | (with_reducible first | exact HB.out | apply below_alloc | apply pw_below_drewN | apply below_drew1 | refine below_set ?_ GE210101.out | refine below_set ?_ GE210102.out) | exact HB.out)⟩
                          · rw [if_neg c50] at H
                            have c50b0 : decide (x2_19 < 0) = false := decide_eq_false c50
                            clear c50
                            obtain rfl := Option.some.inj H
                            go_wp2
                            go_ret
                            exact ⟨_, by first | rfl | (simp [errW_none, errW_some] <;> rfl) | (simp [*, errW_none, errW_some] <;> rfl), by (with_reducible repeat (first | apply Kd.R_alloc | apply Kd.R_drewN | apply Kd.R_drew)); exact Kd.R_mono HO_9.out (fun _ hk => trivial), by repeat (first | (with_reducible first | exact HB.out | apply below_alloc | apply pw_below_drewN | apply below_drew1 | refine below_set ?_ GE210101.out | refine below_set ?_ GE210102.out) | exact HB.out)⟩
                      · rw [if_neg c23] at H
                        have c23b0 : decide (x14_4 ≤ 3652424) = false := decide_eq_false c23
                        clear c23
                        obtain rfl := Option.some.inj H
                        go_wp2
                        go_ret
                        exact ⟨_, by first | rfl | (simp [errW_none, errW_some] <;> rfl) | (simp [*, errW_none, errW_some] <;> rfl), by (with_reducible repeat (first | apply Kd.R_alloc | apply Kd.R_drewN | apply Kd.R_drew)); exact Kd.R_mono HO_9.out (fun _ hk => trivial), by repeat (first | (with_reducible first | exact HB.out | apply below_alloc | apply pw_below_drewN | apply below_drew1 | refine below_set ?_ GE210101.out | refine below_set ?_ GE210102.out) | exact HB.out)⟩
                    · rw [if_neg c22] at H
                      have c22b0 : decide (0 ≤ x14_4) = false := decide_eq_false c22
                      clear c22
                      obtain rfl := Option.some.inj H
                      go_wp2
                      go_ret
                      exact ⟨_, by first | rfl | (simp [errW_none, errW_some] <;> rfl) | (simp [*, errW_none, errW_some] <;> rfl), by (with_reducible repeat (first | apply Kd.R_alloc | apply Kd.R_drewN | apply Kd.R_drew)); exact Kd.R_mono HO_9.out (fun _ hk => trivial), by repeat (first | (with_reducible first | exact HB.out | apply below_alloc | apply pw_below_drewN | apply below_drew1 | refine below_set ?_ GE210101.out | refine below_set ?_ GE210102.out) | exact HB.out)⟩

end Go.Proofs.YtofafljfabgpmaaDoor.GC
