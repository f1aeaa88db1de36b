-- written by a program (gp.py over the kit's print) for this claim
import Derived.Test.YtjifinacnofmiaaDoorGCx0
import Derived.Test.YtjifinacnofmiaaDoorGCxf44
import Derived.Test.YtjifinacnofmiaaDoorGCxf43
namespace Go.Proofs.YtjifinacnofmiaaDoor.GC
open Go.RowKit Go.Proofs.YtjifinacnofmiaaDoorW.PrintWords Go.Proofs.YtjifinacnofmiaaDoorW.PrintLast Go.Proofs.YtjifinacnofmiaaDoor.Ext Go.Proofs.YtjifinacnofmiaaDoor.PCal
attribute [local go_sem] max2_int min2_int max_two min_two   -- for this text alone
set_option linter.unusedVariables false
set_option linter.unusedSimpArgs false

/-! ### larderref03_number: function 41 -/
def larderref03_number.l0 : Nat → Int → Int → Int → Int → Int → Option (Int)
  | 0, _, _, _, _, _ => none
  | k + 1, x3, x4, x410102000, x410102001, x410102002 => if x4 < x410102001 then ((larderref03_long.f k x410102000 x4).bind fun t410103 => (larderref03_number.l0 k (wrap64 (x3 + t410103)) (wrap64 (x4 + 1)) x410102000 x410102001 x410102002)) else (some x3)
def larderref03_number.f (k : Nat) (a0_0 : Int) (a0_1 : Int) (a0_2 : Int) : Option (Int) := (larderref03_ahead.f a0_0).bind fun t410102 => (larderref03_number.l0 k (wrap64 ((wrap64 (t410102 + a0_2)) - 1)) 1 a0_0 a0_1 a0_2)
theorem larderref03_number.mono_l : ∀ k, (∀ y0 y1 y2 y3 y4, LeO (larderref03_number.l0 k y0 y1 y2 y3 y4) (larderref03_number.l0 (k + 1) y0 y1 y2 y3 y4))
  | 0 => fun _ _ _ _ _ r h => by simp [larderref03_number.l0] at h
  | k + 1 => by
    have ih0 := larderref03_number.mono_l k
    · intro y0 y1 y2 y3 y4
      unfold larderref03_number.l0
      repeat' first
      | (with_reducible exact ih0 _ _ _ _ _)
      | (with_reducible exact larderref03_long.mono _ _ _)
      | (with_reducible exact LeO.refl _)
      | (with_reducible exact LeO.none _)
      | (with_reducible refine LeO.ite ?_ ?_)
      | (with_reducible refine LeO.bind ?_ (fun _ => ?_))
      | exact ih0 _ _ _ _ _
      | exact larderref03_long.mono _ _ _
      | exact LeO.none _
      | refine LeO.ite ?_ ?_
      | refine LeO.bind ?_ (fun _ => ?_)
theorem larderref03_number.mono : ∀ a0 a1 a2 k, LeO (larderref03_number.f k a0 a1 a2) (larderref03_number.f (k + 1) a0 a1 a2) := by
  intro a0 a1 a2 k
  have ih0 := larderref03_number.mono_l k
  unfold larderref03_number.f
  repeat' first
      | (with_reducible exact ih0 _ _ _ _ _)
      | (with_reducible exact larderref03_long.mono _ _ _)
      | (with_reducible exact LeO.refl _)
      | (with_reducible exact LeO.none _)
      | (with_reducible refine LeO.ite ?_ ?_)
      | (with_reducible refine LeO.bind ?_ (fun _ => ?_))
      | exact ih0 _ _ _ _ _
      | exact larderref03_long.mono _ _ _
      | exact LeO.none _
      | refine LeO.ite ?_ ?_
      | refine LeO.bind ?_ (fun _ => ?_)
set_option maxHeartbeats 8000000 in
set_option maxRecDepth 100000 in
theorem larderref03_number.calls (k : Nat) (a0_0 : Int) (a0_1 : Int) (a0_2 : Int) (r : Int) (w : World) (h : larderref03_number.f k a0_0 a0_1 a0_2 = some r) :
    Calls Tryd.prog 41 #[.agg #[.int .i64 a0_0, .int .i64 a0_1, .int .i64 a0_2]] w fun e w' => e = .returned (.int .i64 r) ∧ Below w.heap.size w w' := by
  have hu27 := Tryd.underlying27
  have HB := Aside0.mk (Below.refl w.heap.size w)
  have H : ((larderref03_ahead.f a0_0).bind fun t410102 => (larderref03_number.l0 k (wrap64 ((wrap64 (t410102 + a0_2)) - 1)) 1 a0_0 a0_1 a0_2)) = some r := h
  clear h
  replace H := Option.bind_eq_some_iff.mp H
  obtain ⟨t410102, A20, H⟩ := H
  replace H : (larderref03_number.l0 k (wrap64 ((wrap64 (t410102 + a0_2)) - 1)) 1 a0_0 a0_1 a0_2) = some r := H
  have A2 := Aside0.mk A20
  clear A20
  have H' := Aside0.mk H
  clear H
  go_enter Tryd.func41, Tryd.ntmps41
  go_wp2_with (first | ((with_reducible refine gate_dst (N := 1) rfl ?_); refine box_event ?hg (N := 1) ?hd (cs := #[.int .i64 a0_0, .int .i64 a0_1, .int .i64 a0_2]) (t := 27) ?hr ?_; (case hd => rfl); (case hg => rfl); (case hr => first | (go_simp; done) | (go_simp; rfl)); intro gb410101 hg w3 hbox hb; have n0_ := Aside0.mk (below_step (by repeat (first | (with_reducible first | exact HB.out | apply below_alloc | apply pw_below_drewN | apply below_drew1) | exact HB.out)) hb); have n1_ := Aside0.mk (hbox); have n2_ := Aside0.mk ((by rw [hg]; exact (below_size (by repeat (first | (with_reducible first | exact HB.out | apply below_alloc | apply pw_below_drewN | apply below_drew1) | exact HB.out))) : w.heap.size ≤ gb410101)); have n3_ := Aside0.mk ((by rw [hg]; exact (below_size (by repeat (first | (with_reducible first | exact HB.out | apply below_alloc | apply pw_below_drewN | apply below_drew1) | exact HB.out))) : w.heap.size ≤ gb410101)); clear HB; have HB := n0_; have BK410101 := n1_; have GW410101 := n2_; have GE410101 := n3_; clear n0_ n1_ n2_ n3_; clear hb hbox hg; have hcz4_0 : w3.cell? ⟨gb410101, 0, none⟩ = some (.int .i64 a0_0) := (blk_cell BK410101.out 0).trans rfl; have hcz4_1 : w3.cell? ⟨gb410101, 1, none⟩ = some (.int .i64 a0_1) := (blk_cell BK410101.out 1).trans rfl; have hcz4_2 : w3.cell? ⟨gb410101, 2, none⟩ = some (.int .i64 a0_2) := (blk_cell BK410101.out 2).trans rfl; have hfz4_0 := blk_frozen BK410101.out 0; have hfz4_1 := blk_frozen BK410101.out 1; have hfz4_2 := blk_frozen BK410101.out 2) | (go_at_call 43; (with_reducible refine (larderref03_ahead.calls a0_0 t410102 _ A2.out).mono ?_); rintro e w' ⟨rfl, ⟨nd, rfl⟩⟩; (try first | exact ⟨rfl, _, World.drewN_drewN _ _ _⟩ | exact ⟨rfl, _, Eq.trans (World.drewN_drewN _ _ _) (congrArg (World.drewN _) (Nat.add_assoc _ _ _))⟩)))
  repeat (go_quiet (first | ((with_reducible refine gate_dst (N := 1) rfl ?_); refine box_event ?hg (N := 1) ?hd (cs := #[.int .i64 a0_0, .int .i64 a0_1, .int .i64 a0_2]) (t := 27) ?hr ?_; (case hd => rfl); (case hg => rfl); (case hr => first | (go_simp; done) | (go_simp; rfl)); intro gb410101 hg w3 hbox hb; have n0_ := Aside0.mk (below_step (by repeat (first | (with_reducible first | exact HB.out | apply below_alloc | apply pw_below_drewN | apply below_drew1) | exact HB.out)) hb); have n1_ := Aside0.mk (hbox); have n2_ := Aside0.mk ((by rw [hg]; exact (below_size (by repeat (first | (with_reducible first | exact HB.out | apply below_alloc | apply pw_below_drewN | apply below_drew1) | exact HB.out))) : w.heap.size ≤ gb410101)); have n3_ := Aside0.mk ((by rw [hg]; exact (below_size (by repeat (first | (with_reducible first | exact HB.out | apply below_alloc | apply pw_below_drewN | apply below_drew1) | exact HB.out))) : w.heap.size ≤ gb410101)); clear HB; have HB := n0_; have BK410101 := n1_; have GW410101 := n2_; have GE410101 := n3_; clear n0_ n1_ n2_ n3_; clear hb hbox hg; have hcz4_0 : w3.cell? ⟨gb410101, 0, none⟩ = some (.int .i64 a0_0) := (blk_cell BK410101.out 0).trans rfl; have hcz4_1 : w3.cell? ⟨gb410101, 1, none⟩ = some (.int .i64 a0_1) := (blk_cell BK410101.out 1).trans rfl; have hcz4_2 : w3.cell? ⟨gb410101, 2, none⟩ = some (.int .i64 a0_2) := (blk_cell BK410101.out 2).trans rfl; have hfz4_0 := blk_frozen BK410101.out 0; have hfz4_1 := blk_frozen BK410101.out 1; have hfz4_2 := blk_frozen BK410101.out 2) | (go_at_call 43; (with_reducible refine (larderref03_ahead.calls a0_0 t410102 _ A2.out).mono ?_); rintro e w' ⟨rfl, ⟨nd, rfl⟩⟩; (try first | exact ⟨rfl, _, World.drewN_drewN _ _ _⟩ | exact ⟨rfl, _, Eq.trans (World.drewN_drewN _ _ _) (congrArg (World.drewN _) (Nat.add_assoc _ _ _))⟩))); try go_wp2_with (first | ((with_reducible refine gate_dst (N := 1) rfl ?_); refine box_event ?hg (N := 1) ?hd (cs := #[.int .i64 a0_0, .int .i64 a0_1, .int .i64 a0_2]) (t := 27) ?hr ?_; (case hd => rfl); (case hg => rfl); (case hr => first | (go_simp; done) | (go_simp; rfl)); intro gb410101 hg w3 hbox hb; have n0_ := Aside0.mk (below_step (by repeat (first | (with_reducible first | exact HB.out | apply below_alloc | apply pw_below_drewN | apply below_drew1) | exact HB.out)) hb); have n1_ := Aside0.mk (hbox); have n2_ := Aside0.mk ((by rw [hg]; exact (below_size (by repeat (first | (with_reducible first | exact HB.out | apply below_alloc | apply pw_below_drewN | apply below_drew1) | exact HB.out))) : w.heap.size ≤ gb410101)); have n3_ := Aside0.mk ((by rw [hg]; exact (below_size (by repeat (first | (with_reducible first | exact HB.out | apply below_alloc | apply pw_below_drewN | apply below_drew1) | exact HB.out))) : w.heap.size ≤ gb410101)); clear HB; have HB := n0_; have BK410101 := n1_; have GW410101 := n2_; have GE410101 := n3_; clear n0_ n1_ n2_ n3_; clear hb hbox hg; have hcz4_0 : w3.cell? ⟨gb410101, 0, none⟩ = some (.int .i64 a0_0) := (blk_cell BK410101.out 0).trans rfl; have hcz4_1 : w3.cell? ⟨gb410101, 1, none⟩ = some (.int .i64 a0_1) := (blk_cell BK410101.out 1).trans rfl; have hcz4_2 : w3.cell? ⟨gb410101, 2, none⟩ = some (.int .i64 a0_2) := (blk_cell BK410101.out 2).trans rfl; have hfz4_0 := blk_frozen BK410101.out 0; have hfz4_1 := blk_frozen BK410101.out 1; have hfz4_2 := blk_frozen BK410101.out 2) | (go_at_call 43; (with_reducible refine (larderref03_ahead.calls a0_0 t410102 _ A2.out).mono ?_); rintro e w' ⟨rfl, ⟨nd, rfl⟩⟩; (try first | exact ⟨rfl, _, World.drewN_drewN _ _ _⟩ | exact ⟨rfl, _, Eq.trans (World.drewN_drewN _ _ _) (congrArg (World.drewN _) (Nat.add_assoc _ _ _))⟩))))
  go_loopg [3, 4] k (fun kq v3 v4 w' => ∃ (x3_1 : Int) (x4_1 : Int), v3 = .int .i64 x3_1 ∧ v4 = .int .i64 x4_1 ∧ Aside0 (larderref03_number.l0 kq x3_1 x4_1 a0_0 a0_1 a0_2 = some r) ∧ Aside0 (kq ≤ k) ∧ Aside0 (w'.heap[gb410101]? = some (.cells #[.int .i64 a0_0, .int .i64 a0_1, .int .i64 a0_2] 27 (0, 0))) ∧ Aside0 (Below w.heap.size w w'))
  case atStart => exact ⟨(wrap64 ((wrap64 (t410102 + a0_2)) - 1)), (1), (by first | rfl | (simp; done) | (simp [*]; done)), (by first | rfl | (simp; done) | (simp [*]; done)), H', ⟨Nat.le_refl _⟩, ⟨by (with_reducible repeat (first | refine blk_drewN ?_ _ | refine blk_drew ?_ | refine blk_alloc ?_ _)); exact BK410101.out⟩, ⟨by repeat (first | (with_reducible first | exact HB.out | apply below_alloc | apply pw_below_drewN | apply below_drew1 | refine below_set ?_ GE410101.out) | exact HB.out)⟩⟩
  case round =>
    clear H'
    try clear p2
    try clear c4
    try clear hcz4_0
    try clear hcz4_1
    try clear hcz4_2
    try clear hfz4_0
    try clear hfz4_1
    try clear hfz4_2
    obtain ⟨x3_1, x4_1, rfl, rfl, HA, HK1, BK410101, HB⟩ := hrel
    cases gk with
    | zero => exact absurd HA.out (by simp [larderref03_number.l0])
    | succ k1 =>
      have H := HA.out
      clear HA
      simp only [larderref03_number.l0] at H
      by_cases c5 : x4_1 < a0_1
      · rw [if_pos c5] at H
        have c5b0 : decide (x4_1 < a0_1) = true := decide_eq_true c5
        clear c5
        replace H := Option.bind_eq_some_iff.mp H
        obtain ⟨t410103, A60, H⟩ := H
        replace H : (larderref03_number.l0 k1 (wrap64 (x3_1 + t410103)) (wrap64 (x4_1 + 1)) a0_0 a0_1 a0_2) = some r := H
        have A6 := Aside0.mk A60
        clear A60
        have H' := Aside0.mk H
        clear H
        have hcz7_0 : wr.cell? ⟨gb410101, 0, none⟩ = some (.int .i64 a0_0) := (blk_cell BK410101.out 0).trans rfl
        have hcz7_1 : wr.cell? ⟨gb410101, 1, none⟩ = some (.int .i64 a0_1) := (blk_cell BK410101.out 1).trans rfl
        have hcz7_2 : wr.cell? ⟨gb410101, 2, none⟩ = some (.int .i64 a0_2) := (blk_cell BK410101.out 2).trans rfl
        have hfz7_0 := blk_frozen BK410101.out 0
        have hfz7_1 := blk_frozen BK410101.out 1
        have hfz7_2 := blk_frozen BK410101.out 2
        go_wp2_with (first | (go_at_call 44; (with_reducible refine (larderref03_long.calls k1 a0_0 x4_1 t410103 _ A6.out).mono ?_); rintro e w' ⟨rfl, ⟨nd, rfl⟩⟩; (try first | exact ⟨rfl, _, World.drewN_drewN _ _ _⟩ | exact ⟨rfl, _, Eq.trans (World.drewN_drewN _ _ _) (congrArg (World.drewN _) (Nat.add_assoc _ _ _))⟩)))
        repeat (go_quiet (first | (go_at_call 44; (with_reducible refine (larderref03_long.calls k1 a0_0 x4_1 t410103 _ A6.out).mono ?_); rintro e w' ⟨rfl, ⟨nd, rfl⟩⟩; (try first | exact ⟨rfl, _, World.drewN_drewN _ _ _⟩ | exact ⟨rfl, _, Eq.trans (World.drewN_drewN _ _ _) (congrArg (World.drewN _) (Nat.add_assoc _ _ _))⟩))); try go_wp2_with (first | (go_at_call 44; (with_reducible refine (larderref03_long.calls k1 a0_0 x4_1 t410103 _ A6.out).mono ?_); rintro e w' ⟨rfl, ⟨nd, rfl⟩⟩; (try first | exact ⟨rfl, _, World.drewN_drewN _ _ _⟩ | exact ⟨rfl, _, Eq.trans (World.drewN_drewN _ _ _) (congrArg (World.drewN _) (Nat.add_assoc _ _ _))⟩))))
        go_roundg k1
        case measure => have := HK1.out; omega
        case rel => exact ⟨(wrap64 (x3_1 + t410103)), (wrap64 (x4_1 + 1)), (by first | rfl | (simp; done) | (simp [*]; done)), (by first | rfl | (simp; done) | (simp [*]; done)), H', ⟨by have := HK1.out; omega⟩, ⟨by (with_reducible repeat (first | refine blk_drewN ?_ _ | refine blk_drew ?_ | refine blk_alloc ?_ _)); exact BK410101.out⟩, ⟨by repeat (first | (with_reducible first | exact HB.out | apply below_alloc | apply pw_below_drewN | apply below_drew1 | refine below_set ?_ GE410101.out) | exact HB.out)⟩⟩
      · rw [if_neg c5] at H
        have c5b0 : decide (x4_1 < a0_1) = false := decide_eq_false c5
        clear c5
        obtain rfl := Option.some.inj H
        have hcz8_0 : wr.cell? ⟨gb410101, 0, none⟩ = some (.int .i64 a0_0) := (blk_cell BK410101.out 0).trans rfl
        have hcz8_1 : wr.cell? ⟨gb410101, 1, none⟩ = some (.int .i64 a0_1) := (blk_cell BK410101.out 1).trans rfl
        have hcz8_2 : wr.cell? ⟨gb410101, 2, none⟩ = some (.int .i64 a0_2) := (blk_cell BK410101.out 2).trans rfl
        have hfz8_0 := blk_frozen BK410101.out 0
        have hfz8_1 := blk_frozen BK410101.out 1
        have hfz8_2 := blk_frozen BK410101.out 2
        go_wp2
        repeat (go_quiet (fail); try go_wp2)
        go_ret
        exact ⟨by first | rfl | (simp [errW_none, errW_some] <;> rfl) | (simp [*, errW_none, errW_some] <;> rfl), by repeat (first | (with_reducible first | exact HB.out | apply below_alloc | apply pw_below_drewN | apply below_drew1 | refine below_set ?_ GE410101.out) | exact HB.out)⟩

end Go.Proofs.YtjifinacnofmiaaDoor.GC
