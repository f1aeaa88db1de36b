-- written by a program (gp.py over the kit's print) for this claim
import Derived.Test.YtinjlpodcabfaaaDoorGSx0
import Derived.Test.YtinjlpodcabfaaaDoorGSxf28
namespace Go.Proofs.YtinjlpodcabfaaaDoor.GS
open Go.RowKit Go.Proofs.YtinjlpodcabfaaaDoorW.PrintWords Go.Proofs.YtinjlpodcabfaaaDoorW.PrintLast Go.Proofs.YtinjlpodcabfaaaDoor.Ext
attribute [local go_sem] max2_int min2_int max_two min_two   -- for this text alone
set_option linter.unusedVariables false
set_option linter.unusedSimpArgs false

/-! ### larderref04_Parse: function 14 -/
def larderref04_Parse.f (k : Nat) (a0 : ByteArray) : Option ((List (List ByteArray)) × Int × Int × Int × Int × Int) := (larderref04_Read.f k a0).bind fun bt140102 => (if bt140102.2.2.1 = 0 then (some (bt140102.1, bt140102.2.2.1, bt140102.2.2.2.1, bt140102.2.2.2.2.1, bt140102.2.2.2.2.2.1, bt140102.2.2.2.2.2.2)) else (some (([] : List (List ByteArray)), bt140102.2.2.1, bt140102.2.2.2.1, bt140102.2.2.2.2.1, bt140102.2.2.2.2.2.1, bt140102.2.2.2.2.2.2)))
theorem larderref04_Parse.mono : ∀ a0 k, LeO (larderref04_Parse.f k a0) (larderref04_Parse.f (k + 1) a0) := by
  intro a0 k
  unfold larderref04_Parse.f
  repeat' first
      | (with_reducible exact larderref04_Read.mono _ _)
      | (with_reducible exact LeO.refl _)
      | (with_reducible exact LeO.none _)
      | (with_reducible refine LeO.ite ?_ ?_)
      | (with_reducible refine LeO.bind ?_ (fun _ => ?_))
      | exact larderref04_Read.mono _ _
      | exact LeO.none _
      | refine LeO.ite ?_ ?_
      | refine LeO.bind ?_ (fun _ => ?_)
set_option maxHeartbeats 8000000 in
set_option maxRecDepth 100000 in
theorem larderref04_Parse.calls (k : Nat) (a0 : ByteArray) (r1 : List (List ByteArray)) (r2 : Int) (r3 : Int) (r4 : Int) (r5 : Int) (r6 : Int) (w : World) (h : larderref04_Parse.f k a0 = some (r1, r2, r3, r4, r5, r6)) :
    Calls Tryd.prog 14 #[.string a0] w fun e w' => ∃ v0_ : Value, e = .returned (.tuple #[v0_, .agg #[.int .i64 r2, .int .i64 r3, .int .i64 r4, .int .i64 r5, .int .i64 r6]]) ∧ Kd.S (Kd.slice 9 Kd.string) 28 w' w.heap.size (fun _ => True) v0_ r1 ∧ Below w.heap.size w w' := by
  have hu41 := Tryd.underlying41
  have HB := Aside0.mk (Below.refl w.heap.size w)
  have H : ((larderref04_Read.f k a0).bind fun bt140102 => (if bt140102.2.2.1 = 0 then (some (bt140102.1, bt140102.2.2.1, bt140102.2.2.2.1, bt140102.2.2.2.2.1, bt140102.2.2.2.2.2.1, bt140102.2.2.2.2.2.2)) else (some (([] : List (List ByteArray)), bt140102.2.2.1, bt140102.2.2.2.1, bt140102.2.2.2.2.1, bt140102.2.2.2.2.2.1, bt140102.2.2.2.2.2.2)))) = some (r1, r2, r3, r4, r5, r6) := h
  clear h
  replace H := Option.bind_eq_some_iff.mp H
  obtain ⟨⟨t140102, t140105, t140106, t140107, t140108, t140109, t140110⟩, A20, H⟩ := H
  replace H : (if t140106 = 0 then (some (t140102, t140106, t140107, t140108, t140109, t140110)) else (some (([] : List (List ByteArray)), t140106, t140107, t140108, t140109, t140110))) = some (r1, r2, r3, r4, r5, r6) := H
  have A2 := Aside0.mk A20
  clear A20
  by_cases c3 : t140106 = 0
  · rw [if_pos c3] at H
    have c3b0 : (t140106 == 0) = true := beq_iff_eq.mpr c3
    have c3b1 : (t140106 != 0) = false := bne_eq_false_iff_eq.mpr c3
    clear c3
    simp only [Option.some.injEq, Prod.mk.injEq] at H
    obtain ⟨rfl, rfl, rfl, rfl, rfl, rfl⟩ := H
    go_enter Tryd.func14, Tryd.ntmps14
    try go_wp2_with (first | ((with_reducible refine gate_dst (N := 3) rfl ?_); refine box_event ?hg (N := 3) ?hd (cs := #[.int .i64 0, .int .i64 0, .int .i64 0, .int .i64 0, .int .i64 0]) (t := 41) ?hr ?_; (case hd => rfl); (case hg => rfl); (case hr => first | (go_simp; done) | (go_simp; rfl)); intro gb140101 hg w4 hbox hb; have n0_ := Aside0.mk (below_step (by repeat (first | (with_reducible first | exact HB.out | apply below_alloc | apply pw_below_drewN | apply below_drew1) | exact HB.out)) hb); have n1_ := Aside0.mk (hbox); have n2_ := Aside0.mk ((by rw [hg]; exact (below_size (by repeat (first | (with_reducible first | exact HB.out | apply below_alloc | apply pw_below_drewN | apply below_drew1) | exact HB.out))) : w.heap.size ≤ gb140101)); have n3_ := Aside0.mk ((by rw [hg]; exact (below_size (by repeat (first | (with_reducible first | exact HB.out | apply below_alloc | apply pw_below_drewN | apply below_drew1) | exact HB.out))) : w.heap.size ≤ gb140101)); clear HB; have HB := n0_; have BK140101 := n1_; have GW140101 := n2_; have GE140101 := n3_; clear n0_ n1_ n2_ n3_; clear hb hbox hg) | ((with_reducible refine gate_callee (f := 28) rfl ?_); refine goesL_ (some 9) rfl rfl Tryd.func28 (by kernel_rfl) rfl #[.string a0] rfl (by (try simp only [List.map_toArray, List.map_cons, List.map_nil]); first | done | rfl | (simp only [List.length_drop, List.length_take]; rfl)) ?_; (with_reducible refine (larderref04_Read.calls k a0 t140102 t140105 t140106 t140107 t140108 t140109 t140110 _ A2.out).mono ?_); rintro e w5 ⟨v140103, rfl, ho0, hb⟩; refine ⟨_, rfl, ?_⟩; have n0_ := Aside0.mk (Kd.S_lower ho0 (below_size (by repeat (first | (with_reducible first | exact HB.out | apply below_alloc | apply pw_below_drewN | apply below_drew1 | refine below_set ?_ GE140101.out) | exact HB.out)))); have n1_ := Aside0.mk (blk_below (g := gb140101) (o := .cells #[.int .i64 0, .int .i64 0, .int .i64 0, .int .i64 0, .int .i64 0] 41 (0, 0)) (by (with_reducible repeat (first | refine blk_drewN ?_ _ | refine blk_drew ?_ | refine blk_alloc ?_ _)); exact BK140101.out) hb); have n2_ := Aside0.mk (below_step (by repeat (first | (with_reducible first | exact HB.out | apply below_alloc | apply pw_below_drewN | apply below_drew1 | refine below_set ?_ GE140101.out) | exact HB.out)) hb); clear BK140101; clear HB; have HO140104 := n0_; have BK140101 := n1_; have HB := n2_; clear n0_ n1_ n2_; (try clear hb); (try clear hb2); (try clear hk); (try clear hi); (try clear ho0)) | ((with_reducible refine gate_dst (N := 6) rfl ?_); refine box_event ?hg (N := 6) ?hd (cs := #[.int .i64 0, .int .i64 0, .int .i64 0, .int .i64 0, .int .i64 0]) (t := 41) ?hr ?_; (case hd => rfl); (case hg => rfl); (case hr => first | (go_simp; done) | (go_simp; rfl)); intro gb140111 hg w6 hbox hb; have n0_ := Aside0.mk (Kd.S_below (by (with_reducible repeat (first | apply Kd.S_alloc | apply Kd.S_drewN | apply Kd.S_drew)); exact HO140104.out) hb); have n1_ := Aside0.mk (blk_below (g := gb140101) (o := .cells #[.int .i64 0, .int .i64 0, .int .i64 0, .int .i64 0, .int .i64 0] 41 (0, 0)) (by (with_reducible repeat (first | refine blk_drewN ?_ _ | refine blk_drew ?_ | refine blk_alloc ?_ _)); exact BK140101.out) hb); have n2_ := Aside0.mk (below_step (by repeat (first | (with_reducible first | exact HB.out | apply below_alloc | apply pw_below_drewN | apply below_drew1 | refine below_set ?_ GE140101.out) | exact HB.out)) hb); have n3_ := Aside0.mk (hbox); have n4_ := Aside0.mk ((by rw [hg]; exact (below_size (by repeat (first | (with_reducible first | exact HB.out | apply below_alloc | apply pw_below_drewN | apply below_drew1 | refine below_set ?_ GE140101.out) | exact HB.out))) : w.heap.size ≤ gb140111)); have n5_ := Aside0.mk ((by rw [hg]; exact (below_size (by repeat (first | (with_reducible first | exact HB.out | apply below_alloc | apply pw_below_drewN | apply below_drew1 | refine below_set ?_ GE140101.out) | exact HB.out))) : w.heap.size ≤ gb140111)); have n6_ := Aside0.mk ((by rw [hg]; exact Nat.ne_of_lt (blk_lt (g := gb140101) (o := .cells #[.int .i64 0, .int .i64 0, .int .i64 0, .int .i64 0, .int .i64 0] 41 (0, 0)) (by (with_reducible repeat (first | refine blk_drewN ?_ _ | refine blk_drew ?_ | refine blk_alloc ?_ _)); exact BK140101.out)) : gb140101 ≠ gb140111)); have n7_ := Aside0.mk ((by rw [hg]; exact Nat.ne_of_gt (blk_lt (g := gb140101) (o := .cells #[.int .i64 0, .int .i64 0, .int .i64 0, .int .i64 0, .int .i64 0] 41 (0, 0)) (by (with_reducible repeat (first | refine blk_drewN ?_ _ | refine blk_drew ?_ | refine blk_alloc ?_ _)); exact BK140101.out)) : gb140111 ≠ gb140101)); clear HO140104; clear BK140101; clear HB; have HO140104 := n0_; have BK140101 := n1_; have HB := n2_; have BK140111 := n3_; have GW140111 := n4_; have GE140111 := n5_; have NB140101_140111 := n6_; have NB140111_140101 := n7_; clear n0_ n1_ n2_ n3_ n4_ n5_ n6_ n7_; clear hb hbox hg; have hnb7 := NB140111_140101.out; have hnc7 := NB140101_140111.out; have hcz8_0 : w6.cell? ⟨gb140111, 0, none⟩ = some (.int .i64 0) := (blk_cell BK140111.out 0).trans rfl; have hcz8_1 : w6.cell? ⟨gb140111, 1, none⟩ = some (.int .i64 0) := (blk_cell BK140111.out 1).trans rfl; have hcz8_2 : w6.cell? ⟨gb140111, 2, none⟩ = some (.int .i64 0) := (blk_cell BK140111.out 2).trans rfl; have hcz8_3 : w6.cell? ⟨gb140111, 3, none⟩ = some (.int .i64 0) := (blk_cell BK140111.out 3).trans rfl; have hcz8_4 : w6.cell? ⟨gb140111, 4, none⟩ = some (.int .i64 0) := (blk_cell BK140111.out 4).trans rfl; have hfz8_0 := blk_frozen BK140111.out 0; have hfz8_1 := blk_frozen BK140111.out 1; have hfz8_2 := blk_frozen BK140111.out 2; have hfz8_3 := blk_frozen BK140111.out 3; have hfz8_4 := blk_frozen BK140111.out 4))
    have n0_ : Aside0 (Kd.S (Kd.slice 9 Kd.string) 28 (((((w6.setCell ⟨gb140111, 0, none⟩ (.int .i64 t140106)).setCell ⟨gb140111, 1, none⟩ (.int .i64 t140107)).setCell ⟨gb140111, 2, none⟩ (.int .i64 t140108)).setCell ⟨gb140111, 3, none⟩ (.int .i64 t140109)).setCell ⟨gb140111, 4, none⟩ (.int .i64 t140110)) w.heap.size (fun _ => True) v140103 t140102) := ⟨by (with_reducible repeat (first | apply Kd.S_alloc | apply Kd.S_drewN | apply Kd.S_drew)); exact Kd.S_mono (Kd.S_far (p := ⟨gb140111, 4, none⟩) (Kd.S_far (p := ⟨gb140111, 3, none⟩) (Kd.S_far (p := ⟨gb140111, 2, none⟩) (Kd.S_far (p := ⟨gb140111, 1, none⟩) (Kd.S_far (p := ⟨gb140111, 0, none⟩) (Kd.S_types HO140104.out BK140111.out (by decide)) (fun _ hk => hk.2) (.int .i64 t140106)) (fun _ hk => hk.2) (.int .i64 t140107)) (fun _ hk => hk.2) (.int .i64 t140108)) (fun _ hk => hk.2) (.int .i64 t140109)) (fun _ hk => hk.2) (.int .i64 t140110)) (fun _ hk => trivial)⟩
    have n1_ : Aside0 ((((((w6.setCell ⟨gb140111, 0, none⟩ (.int .i64 t140106)).setCell ⟨gb140111, 1, none⟩ (.int .i64 t140107)).setCell ⟨gb140111, 2, none⟩ (.int .i64 t140108)).setCell ⟨gb140111, 3, none⟩ (.int .i64 t140109)).setCell ⟨gb140111, 4, none⟩ (.int .i64 t140110)).heap[gb140101]? = some (.cells #[.int .i64 0, .int .i64 0, .int .i64 0, .int .i64 0, .int .i64 0] 41 (0, 0))) := ⟨by (with_reducible repeat (first | refine blk_drewN ?_ _ | refine blk_drew ?_ | refine blk_alloc ?_ _)); refine blk_far ?_ NB140101_140111.out _; (with_reducible repeat (first | refine blk_drewN ?_ _ | refine blk_drew ?_ | refine blk_alloc ?_ _)); refine blk_far ?_ NB140101_140111.out _; (with_reducible repeat (first | refine blk_drewN ?_ _ | refine blk_drew ?_ | refine blk_alloc ?_ _)); refine blk_far ?_ NB140101_140111.out _; (with_reducible repeat (first | refine blk_drewN ?_ _ | refine blk_drew ?_ | refine blk_alloc ?_ _)); refine blk_far ?_ NB140101_140111.out _; (with_reducible repeat (first | refine blk_drewN ?_ _ | refine blk_drew ?_ | refine blk_alloc ?_ _)); refine blk_far ?_ NB140101_140111.out _; (with_reducible repeat (first | refine blk_drewN ?_ _ | refine blk_drew ?_ | refine blk_alloc ?_ _)); exact BK140101.out⟩
    have n2_ : Aside0 ((((((w6.setCell ⟨gb140111, 0, none⟩ (.int .i64 t140106)).setCell ⟨gb140111, 1, none⟩ (.int .i64 t140107)).setCell ⟨gb140111, 2, none⟩ (.int .i64 t140108)).setCell ⟨gb140111, 3, none⟩ (.int .i64 t140109)).setCell ⟨gb140111, 4, none⟩ (.int .i64 t140110)).heap[gb140111]? = some (.cells #[.int .i64 t140106, .int .i64 t140107, .int .i64 t140108, .int .i64 t140109, .int .i64 t140110] 41 (0, 0))) := ⟨by (with_reducible repeat (first | refine blk_drewN ?_ _ | refine blk_drew ?_ | refine blk_alloc ?_ _)); refine blk_put (cs := #[.int .i64 t140106, .int .i64 t140107, .int .i64 t140108, .int .i64 t140109, .int .i64 0]) ?_ 4 _ rfl; (with_reducible repeat (first | refine blk_drewN ?_ _ | refine blk_drew ?_ | refine blk_alloc ?_ _)); refine blk_put (cs := #[.int .i64 t140106, .int .i64 t140107, .int .i64 t140108, .int .i64 0, .int .i64 0]) ?_ 3 _ rfl; (with_reducible repeat (first | refine blk_drewN ?_ _ | refine blk_drew ?_ | refine blk_alloc ?_ _)); refine blk_put (cs := #[.int .i64 t140106, .int .i64 t140107, .int .i64 0, .int .i64 0, .int .i64 0]) ?_ 2 _ rfl; (with_reducible repeat (first | refine blk_drewN ?_ _ | refine blk_drew ?_ | refine blk_alloc ?_ _)); refine blk_put (cs := #[.int .i64 t140106, .int .i64 0, .int .i64 0, .int .i64 0, .int .i64 0]) ?_ 1 _ rfl; (with_reducible repeat (first | refine blk_drewN ?_ _ | refine blk_drew ?_ | refine blk_alloc ?_ _)); refine blk_put (cs := #[.int .i64 0, .int .i64 0, .int .i64 0, .int .i64 0, .int .i64 0]) ?_ 0 _ rfl; (with_reducible repeat (first | refine blk_drewN ?_ _ | refine blk_drew ?_ | refine blk_alloc ?_ _)); exact BK140111.out⟩
    have n3_ : Aside0 (Below w.heap.size w (((((w6.setCell ⟨gb140111, 0, none⟩ (.int .i64 t140106)).setCell ⟨gb140111, 1, none⟩ (.int .i64 t140107)).setCell ⟨gb140111, 2, none⟩ (.int .i64 t140108)).setCell ⟨gb140111, 3, none⟩ (.int .i64 t140109)).setCell ⟨gb140111, 4, none⟩ (.int .i64 t140110))) := ⟨by repeat (first | (with_reducible first | exact HB.out | apply below_alloc | apply pw_below_drewN | apply below_drew1 | refine below_set ?_ GE140101.out | refine below_set ?_ GE140111.out) | exact HB.out)⟩
    (try clear HO140104)
    (try clear BK140101)
    (try clear BK140111)
    (try clear HB)
    generalize (((((w6.setCell ⟨gb140111, 0, none⟩ (.int .i64 t140106)).setCell ⟨gb140111, 1, none⟩ (.int .i64 t140107)).setCell ⟨gb140111, 2, none⟩ (.int .i64 t140108)).setCell ⟨gb140111, 3, none⟩ (.int .i64 t140109)).setCell ⟨gb140111, 4, none⟩ (.int .i64 t140110)) = w9 at n0_ n1_ n2_ n3_ ⊢
    have HO140104 := n0_
    have BK140101 := n1_
    have BK140111 := n2_
    have HB := n3_
    clear n0_ n1_ n2_ n3_
    have n0_ := Aside0.mk (Kd.S_drew HO140104.out)
    have n1_ := Aside0.mk (blk_drew BK140101.out)
    have n2_ := Aside0.mk (blk_drew BK140111.out)
    have n3_ := Aside0.mk (below_drew1 HB.out)
    clear HO140104
    clear BK140101
    clear BK140111
    clear HB
    have HO140104 := n0_
    have BK140101 := n1_
    have BK140111 := n2_
    have HB := n3_
    clear n0_ n1_ n2_ n3_
    refine start_ (n := 4) (S := fun w' => w'.cell? ⟨gb140111, 0, none⟩ = some (.int .i64 t140106) ∧ w'.cell? ⟨gb140111, 1, none⟩ = some (.int .i64 t140107) ∧ w'.cell? ⟨gb140111, 2, none⟩ = some (.int .i64 t140108) ∧ w'.cell? ⟨gb140111, 3, none⟩ = some (.int .i64 t140109) ∧ w'.cell? ⟨gb140111, 4, none⟩ = some (.int .i64 t140110)) (ds := []) #[false, false, false, false] (by kernel_rfl) rfl rfl ⟨(blk_cell BK140111.out 0).trans rfl, (blk_cell BK140111.out 1).trans rfl, (blk_cell BK140111.out 2).trans rfl, (blk_cell BK140111.out 3).trans rfl, (blk_cell BK140111.out 4).trans rfl⟩ (fun hHeld => ?_)
    generalize w9.drew = w10 at HO140104 BK140101 BK140111 HB hHeld ⊢
    refine pure_ (i := 0) (N := some 17) (v := ?_) (a' := ?_) #[true, false, false, false] rfl rfl (by kernel_rfl) (fun _ _ _ h => h) (Or.inl ⟨by rfl, ?_⟩) ?_ ?_
    rotate_left
    · intro w'
      go_simp
      with_reducible rfl
    rotate_left
    · simp only [Act.put, List.setIfInBounds_toArray, List.set_cons_zero, List.set_cons_succ, i64_w, i32_w]
      rfl
    refine pure_ (i := 2) (N := some 2) (v := ?_) (a' := ?_) #[true, false, true, false] rfl rfl (by kernel_rfl) (fun _ _ _ h => h) (Or.inl ⟨by rfl, ?_⟩) ?_ ?_
    rotate_left
    · intro w'
      go_simp
      with_reducible rfl
    rotate_left
    · simp only [Act.put, List.setIfInBounds_toArray, List.set_cons_zero, List.set_cons_succ, i64_w, i32_w]
      rfl
    refine take_ (i := 1) (N := some 18) (v := ?_) (a' := ?_) #[true, true, true, false] rfl rfl (by kernel_rfl) (fun _ _ _ h => h) (Or.inl ⟨by rfl, ?_⟩) hHeld ?_ ?_
    rotate_left
    · rintro w' ⟨s0, s1, s2, s3, s4⟩
      go_simp
      with_reducible rfl
    rotate_left
    · simp only [Act.put, List.setIfInBounds_toArray, List.set_cons_zero, List.set_cons_succ, i64_w, i32_w]
      rfl
    refine one_ (i := 3) (N := none) #[true, true, true, true] rfl rfl (by kernel_rfl) (by decide) (fun K hK => ?_)
    have hs11 : w10.cell? ⟨gb140101, 0, none⟩ = some (.int .i64 0) := (blk_cell BK140101.out 0).trans rfl
    have hfs11 := blk_frozen BK140101.out 0
    have hns11_1 := NB140111_140101.out
    have hms11_1 := NB140101_140111.out
    have hs12 : w10.cell? ⟨gb140101, 1, none⟩ = some (.int .i64 0) := (blk_cell BK140101.out 1).trans rfl
    have hfs12 := blk_frozen BK140101.out 1
    have hns12_1 := NB140111_140101.out
    have hms12_1 := NB140101_140111.out
    have hs13 : w10.cell? ⟨gb140101, 2, none⟩ = some (.int .i64 0) := (blk_cell BK140101.out 2).trans rfl
    have hfs13 := blk_frozen BK140101.out 2
    have hns13_1 := NB140111_140101.out
    have hms13_1 := NB140101_140111.out
    have hs14 : w10.cell? ⟨gb140101, 3, none⟩ = some (.int .i64 0) := (blk_cell BK140101.out 3).trans rfl
    have hfs14 := blk_frozen BK140101.out 3
    have hns14_1 := NB140111_140101.out
    have hms14_1 := NB140101_140111.out
    have hs15 : w10.cell? ⟨gb140101, 4, none⟩ = some (.int .i64 0) := (blk_cell BK140101.out 4).trans rfl
    have hfs15 := blk_frozen BK140101.out 4
    have hns15_1 := NB140111_140101.out
    have hms15_1 := NB140101_140111.out
    refine skip_ (w1 := ?_) (by rfl) rfl ?_ ?_
    rotate_left
    · go_simp
      rfl
    refine hK.out _ _ ⟨((cell_far (p := ⟨gb140101, _, none⟩) NB140111_140101.out _).trans (((cell_far (p := ⟨gb140101, _, none⟩) NB140111_140101.out _).trans (((cell_far (p := ⟨gb140101, _, none⟩) NB140111_140101.out _).trans (((cell_far (p := ⟨gb140101, _, none⟩) NB140111_140101.out _).trans (((cell_far (p := ⟨gb140101, _, none⟩) NB140111_140101.out _).trans (hHeld.1)))))))))), ((cell_far (p := ⟨gb140101, _, none⟩) NB140111_140101.out _).trans (((cell_far (p := ⟨gb140101, _, none⟩) NB140111_140101.out _).trans (((cell_far (p := ⟨gb140101, _, none⟩) NB140111_140101.out _).trans (((cell_far (p := ⟨gb140101, _, none⟩) NB140111_140101.out _).trans (((cell_far (p := ⟨gb140101, _, none⟩) NB140111_140101.out _).trans (hHeld.2.1)))))))))), ((cell_far (p := ⟨gb140101, _, none⟩) NB140111_140101.out _).trans (((cell_far (p := ⟨gb140101, _, none⟩) NB140111_140101.out _).trans (((cell_far (p := ⟨gb140101, _, none⟩) NB140111_140101.out _).trans (((cell_far (p := ⟨gb140101, _, none⟩) NB140111_140101.out _).trans (((cell_far (p := ⟨gb140101, _, none⟩) NB140111_140101.out _).trans (hHeld.2.2.1)))))))))), ((cell_far (p := ⟨gb140101, _, none⟩) NB140111_140101.out _).trans (((cell_far (p := ⟨gb140101, _, none⟩) NB140111_140101.out _).trans (((cell_far (p := ⟨gb140101, _, none⟩) NB140111_140101.out _).trans (((cell_far (p := ⟨gb140101, _, none⟩) NB140111_140101.out _).trans (((cell_far (p := ⟨gb140101, _, none⟩) NB140111_140101.out _).trans (hHeld.2.2.2.1)))))))))), ((cell_far (p := ⟨gb140101, _, none⟩) NB140111_140101.out _).trans (((cell_far (p := ⟨gb140101, _, none⟩) NB140111_140101.out _).trans (((cell_far (p := ⟨gb140101, _, none⟩) NB140111_140101.out _).trans (((cell_far (p := ⟨gb140101, _, none⟩) NB140111_140101.out _).trans (((cell_far (p := ⟨gb140101, _, none⟩) NB140111_140101.out _).trans (hHeld.2.2.2.2))))))))))⟩ (fun hHeld => ?_)
    clear hK K
    refine done_ (by kernel_rfl) ?_
    try go_wp2
    refine bodyPost_ret (results_tc rfl _ _ gb140101 41 #[.int .i64 t140106, .int .i64 t140107, .int .i64 t140108, .int .i64 t140109, .int .i64 t140110] (0, 0) _ rfl (by (with_reducible repeat (first | refine blk_drewN ?_ _ | refine blk_drew ?_ | refine blk_alloc ?_ _)); refine blk_put (cs := #[.int .i64 t140106, .int .i64 t140107, .int .i64 t140108, .int .i64 t140109, .int .i64 0]) ?_ 4 _ rfl; (with_reducible repeat (first | refine blk_drewN ?_ _ | refine blk_drew ?_ | refine blk_alloc ?_ _)); refine blk_put (cs := #[.int .i64 t140106, .int .i64 t140107, .int .i64 t140108, .int .i64 0, .int .i64 0]) ?_ 3 _ rfl; (with_reducible repeat (first | refine blk_drewN ?_ _ | refine blk_drew ?_ | refine blk_alloc ?_ _)); refine blk_put (cs := #[.int .i64 t140106, .int .i64 t140107, .int .i64 0, .int .i64 0, .int .i64 0]) ?_ 2 _ rfl; (with_reducible repeat (first | refine blk_drewN ?_ _ | refine blk_drew ?_ | refine blk_alloc ?_ _)); refine blk_put (cs := #[.int .i64 t140106, .int .i64 0, .int .i64 0, .int .i64 0, .int .i64 0]) ?_ 1 _ rfl; (with_reducible repeat (first | refine blk_drewN ?_ _ | refine blk_drew ?_ | refine blk_alloc ?_ _)); refine blk_put (cs := #[.int .i64 0, .int .i64 0, .int .i64 0, .int .i64 0, .int .i64 0]) ?_ 0 _ rfl; (with_reducible repeat (first | refine blk_drewN ?_ _ | refine blk_drew ?_ | refine blk_alloc ?_ _)); exact BK140101.out) Tryd.underlying41 rfl (by kernel_rfl)) rfl ?_
    exact ⟨_, by first | rfl | (simp [errW_none, errW_some] <;> rfl) | (simp [*, errW_none, errW_some] <;> rfl), by (with_reducible repeat (first | apply Kd.S_alloc | apply Kd.S_drewN | apply Kd.S_drew)); exact Kd.S_mono (Kd.S_far (p := ⟨gb140101, 4, none⟩) (Kd.S_far (p := ⟨gb140101, 3, none⟩) (Kd.S_far (p := ⟨gb140101, 2, none⟩) (Kd.S_far (p := ⟨gb140101, 1, none⟩) (Kd.S_far (p := ⟨gb140101, 0, none⟩) (Kd.S_types HO140104.out BK140101.out (by decide)) (fun _ hk => hk.2) (.int .i64 t140106)) (fun _ hk => hk.2) (.int .i64 t140107)) (fun _ hk => hk.2) (.int .i64 t140108)) (fun _ hk => hk.2) (.int .i64 t140109)) (fun _ hk => hk.2) (.int .i64 t140110)) (fun _ hk => trivial), by repeat (first | (with_reducible first | exact HB.out | apply below_alloc | apply pw_below_drewN | apply below_drew1 | refine below_set ?_ GE140101.out | refine below_set ?_ GE140111.out) | exact HB.out)⟩
  · rw [if_neg c3] at H
    have c3b0 : (t140106 == 0) = false := beq_eq_false_iff_ne.mpr c3
    have c3b1 : (t140106 != 0) = true := bne_iff_ne.mpr c3
    simp only [Option.some.injEq, Prod.mk.injEq] at H
    obtain ⟨rfl, rfl, rfl, rfl, rfl, rfl⟩ := H
    go_enter Tryd.func14, Tryd.ntmps14
    try go_wp2_with (first | ((with_reducible refine gate_dst (N := 3) rfl ?_); refine box_event ?hg (N := 3) ?hd (cs := #[.int .i64 0, .int .i64 0, .int .i64 0, .int .i64 0, .int .i64 0]) (t := 41) ?hr ?_; (case hd => rfl); (case hg => rfl); (case hr => first | (go_simp; done) | (go_simp; rfl)); intro gb140101 hg w16 hbox hb; have n0_ := Aside0.mk (below_step (by repeat (first | (with_reducible first | exact HB.out | apply below_alloc | apply pw_below_drewN | apply below_drew1) | exact HB.out)) hb); have n1_ := Aside0.mk (hbox); have n2_ := Aside0.mk ((by rw [hg]; exact (below_size (by repeat (first | (with_reducible first | exact HB.out | apply below_alloc | apply pw_below_drewN | apply below_drew1) | exact HB.out))) : w.heap.size ≤ gb140101)); have n3_ := Aside0.mk ((by rw [hg]; exact (below_size (by repeat (first | (with_reducible first | exact HB.out | apply below_alloc | apply pw_below_drewN | apply below_drew1) | exact HB.out))) : w.heap.size ≤ gb140101)); clear HB; have HB := n0_; have BK140101 := n1_; have GW140101 := n2_; have GE140101 := n3_; clear n0_ n1_ n2_ n3_; clear hb hbox hg) | ((with_reducible refine gate_callee (f := 28) rfl ?_); refine goesL_ (some 9) rfl rfl Tryd.func28 (by kernel_rfl) rfl #[.string a0] rfl (by (try simp only [List.map_toArray, List.map_cons, List.map_nil]); first | done | rfl | (simp only [List.length_drop, List.length_take]; rfl)) ?_; (with_reducible refine (larderref04_Read.calls k a0 t140102 t140105 t140106 t140107 t140108 t140109 t140110 _ A2.out).mono ?_); rintro e w17 ⟨v140103, rfl, ho0, hb⟩; refine ⟨_, rfl, ?_⟩; have n0_ := Aside0.mk (Kd.S_lower ho0 (below_size (by repeat (first | (with_reducible first | exact HB.out | apply below_alloc | apply pw_below_drewN | apply below_drew1 | refine below_set ?_ GE140101.out) | exact HB.out)))); have n1_ := Aside0.mk (blk_below (g := gb140101) (o := .cells #[.int .i64 0, .int .i64 0, .int .i64 0, .int .i64 0, .int .i64 0] 41 (0, 0)) (by (with_reducible repeat (first | refine blk_drewN ?_ _ | refine blk_drew ?_ | refine blk_alloc ?_ _)); exact BK140101.out) hb); have n2_ := Aside0.mk (below_step (by repeat (first | (with_reducible first | exact HB.out | apply below_alloc | apply pw_below_drewN | apply below_drew1 | refine below_set ?_ GE140101.out) | exact HB.out)) hb); clear BK140101; clear HB; have HO140104 := n0_; have BK140101 := n1_; have HB := n2_; clear n0_ n1_ n2_; (try clear hb); (try clear hb2); (try clear hk); (try clear hi); (try clear ho0)) | ((with_reducible refine gate_dst (N := 6) rfl ?_); refine box_event ?hg (N := 6) ?hd (cs := #[.int .i64 0, .int .i64 0, .int .i64 0, .int .i64 0, .int .i64 0]) (t := 41) ?hr ?_; (case hd => rfl); (case hg => rfl); (case hr => first | (go_simp; done) | (go_simp; rfl)); intro gb140111 hg w18 hbox hb; have n0_ := Aside0.mk (Kd.S_below (by (with_reducible repeat (first | apply Kd.S_alloc | apply Kd.S_drewN | apply Kd.S_drew)); exact HO140104.out) hb); have n1_ := Aside0.mk (blk_below (g := gb140101) (o := .cells #[.int .i64 0, .int .i64 0, .int .i64 0, .int .i64 0, .int .i64 0] 41 (0, 0)) (by (with_reducible repeat (first | refine blk_drewN ?_ _ | refine blk_drew ?_ | refine blk_alloc ?_ _)); exact BK140101.out) hb); have n2_ := Aside0.mk (below_step (by repeat (first | (with_reducible first | exact HB.out | apply below_alloc | apply pw_below_drewN | apply below_drew1 | refine below_set ?_ GE140101.out) | exact HB.out)) hb); have n3_ := Aside0.mk (hbox); have n4_ := Aside0.mk ((by rw [hg]; exact (below_size (by repeat (first | (with_reducible first | exact HB.out | apply below_alloc | apply pw_below_drewN | apply below_drew1 | refine below_set ?_ GE140101.out) | exact HB.out))) : w.heap.size ≤ gb140111)); have n5_ := Aside0.mk ((by rw [hg]; exact (below_size (by repeat (first | (with_reducible first | exact HB.out | apply below_alloc | apply pw_below_drewN | apply below_drew1 | refine below_set ?_ GE140101.out) | exact HB.out))) : w.heap.size ≤ gb140111)); have n6_ := Aside0.mk ((by rw [hg]; exact Nat.ne_of_lt (blk_lt (g := gb140101) (o := .cells #[.int .i64 0, .int .i64 0, .int .i64 0, .int .i64 0, .int .i64 0] 41 (0, 0)) (by (with_reducible repeat (first | refine blk_drewN ?_ _ | refine blk_drew ?_ | refine blk_alloc ?_ _)); exact BK140101.out)) : gb140101 ≠ gb140111)); have n7_ := Aside0.mk ((by rw [hg]; exact Nat.ne_of_gt (blk_lt (g := gb140101) (o := .cells #[.int .i64 0, .int .i64 0, .int .i64 0, .int .i64 0, .int .i64 0] 41 (0, 0)) (by (with_reducible repeat (first | refine blk_drewN ?_ _ | refine blk_drew ?_ | refine blk_alloc ?_ _)); exact BK140101.out)) : gb140111 ≠ gb140101)); clear HO140104; clear BK140101; clear HB; have HO140104 := n0_; have BK140101 := n1_; have HB := n2_; have BK140111 := n3_; have GW140111 := n4_; have GE140111 := n5_; have NB140101_140111 := n6_; have NB140111_140101 := n7_; clear n0_ n1_ n2_ n3_ n4_ n5_ n6_ n7_; clear hb hbox hg; have hnb19 := NB140111_140101.out; have hnc19 := NB140101_140111.out; have hcz20_0 : w18.cell? ⟨gb140111, 0, none⟩ = some (.int .i64 0) := (blk_cell BK140111.out 0).trans rfl; have hcz20_1 : w18.cell? ⟨gb140111, 1, none⟩ = some (.int .i64 0) := (blk_cell BK140111.out 1).trans rfl; have hcz20_2 : w18.cell? ⟨gb140111, 2, none⟩ = some (.int .i64 0) := (blk_cell BK140111.out 2).trans rfl; have hcz20_3 : w18.cell? ⟨gb140111, 3, none⟩ = some (.int .i64 0) := (blk_cell BK140111.out 3).trans rfl; have hcz20_4 : w18.cell? ⟨gb140111, 4, none⟩ = some (.int .i64 0) := (blk_cell BK140111.out 4).trans rfl; have hfz20_0 := blk_frozen BK140111.out 0; have hfz20_1 := blk_frozen BK140111.out 1; have hfz20_2 := blk_frozen BK140111.out 2; have hfz20_3 := blk_frozen BK140111.out 3; have hfz20_4 := blk_frozen BK140111.out 4))
    have n0_ : Aside0 (Kd.S (Kd.slice 9 Kd.string) 28 (((((w18.setCell ⟨gb140111, 0, none⟩ (.int .i64 t140106)).setCell ⟨gb140111, 1, none⟩ (.int .i64 t140107)).setCell ⟨gb140111, 2, none⟩ (.int .i64 t140108)).setCell ⟨gb140111, 3, none⟩ (.int .i64 t140109)).setCell ⟨gb140111, 4, none⟩ (.int .i64 t140110)) w.heap.size (fun _ => True) v140103 t140102) := ⟨by (with_reducible repeat (first | apply Kd.S_alloc | apply Kd.S_drewN | apply Kd.S_drew)); exact Kd.S_mono (Kd.S_far (p := ⟨gb140111, 4, none⟩) (Kd.S_far (p := ⟨gb140111, 3, none⟩) (Kd.S_far (p := ⟨gb140111, 2, none⟩) (Kd.S_far (p := ⟨gb140111, 1, none⟩) (Kd.S_far (p := ⟨gb140111, 0, none⟩) (Kd.S_types HO140104.out BK140111.out (by decide)) (fun _ hk => hk.2) (.int .i64 t140106)) (fun _ hk => hk.2) (.int .i64 t140107)) (fun _ hk => hk.2) (.int .i64 t140108)) (fun _ hk => hk.2) (.int .i64 t140109)) (fun _ hk => hk.2) (.int .i64 t140110)) (fun _ hk => trivial)⟩
    have n1_ : Aside0 ((((((w18.setCell ⟨gb140111, 0, none⟩ (.int .i64 t140106)).setCell ⟨gb140111, 1, none⟩ (.int .i64 t140107)).setCell ⟨gb140111, 2, none⟩ (.int .i64 t140108)).setCell ⟨gb140111, 3, none⟩ (.int .i64 t140109)).setCell ⟨gb140111, 4, none⟩ (.int .i64 t140110)).heap[gb140101]? = some (.cells #[.int .i64 0, .int .i64 0, .int .i64 0, .int .i64 0, .int .i64 0] 41 (0, 0))) := ⟨by (with_reducible repeat (first | refine blk_drewN ?_ _ | refine blk_drew ?_ | refine blk_alloc ?_ _)); refine blk_far ?_ NB140101_140111.out _; (with_reducible repeat (first | refine blk_drewN ?_ _ | refine blk_drew ?_ | refine blk_alloc ?_ _)); refine blk_far ?_ NB140101_140111.out _; (with_reducible repeat (first | refine blk_drewN ?_ _ | refine blk_drew ?_ | refine blk_alloc ?_ _)); refine blk_far ?_ NB140101_140111.out _; (with_reducible repeat (first | refine blk_drewN ?_ _ | refine blk_drew ?_ | refine blk_alloc ?_ _)); refine blk_far ?_ NB140101_140111.out _; (with_reducible repeat (first | refine blk_drewN ?_ _ | refine blk_drew ?_ | refine blk_alloc ?_ _)); refine blk_far ?_ NB140101_140111.out _; (with_reducible repeat (first | refine blk_drewN ?_ _ | refine blk_drew ?_ | refine blk_alloc ?_ _)); exact BK140101.out⟩
    have n2_ : Aside0 ((((((w18.setCell ⟨gb140111, 0, none⟩ (.int .i64 t140106)).setCell ⟨gb140111, 1, none⟩ (.int .i64 t140107)).setCell ⟨gb140111, 2, none⟩ (.int .i64 t140108)).setCell ⟨gb140111, 3, none⟩ (.int .i64 t140109)).setCell ⟨gb140111, 4, none⟩ (.int .i64 t140110)).heap[gb140111]? = some (.cells #[.int .i64 t140106, .int .i64 t140107, .int .i64 t140108, .int .i64 t140109, .int .i64 t140110] 41 (0, 0))) := ⟨by (with_reducible repeat (first | refine blk_drewN ?_ _ | refine blk_drew ?_ | refine blk_alloc ?_ _)); refine blk_put (cs := #[.int .i64 t140106, .int .i64 t140107, .int .i64 t140108, .int .i64 t140109, .int .i64 0]) ?_ 4 _ rfl; (with_reducible repeat (first | refine blk_drewN ?_ _ | refine blk_drew ?_ | refine blk_alloc ?_ _)); refine blk_put (cs := #[.int .i64 t140106, .int .i64 t140107, .int .i64 t140108, .int .i64 0, .int .i64 0]) ?_ 3 _ rfl; (with_reducible repeat (first | refine blk_drewN ?_ _ | refine blk_drew ?_ | refine blk_alloc ?_ _)); refine blk_put (cs := #[.int .i64 t140106, .int .i64 t140107, .int .i64 0, .int .i64 0, .int .i64 0]) ?_ 2 _ rfl; (with_reducible repeat (first | refine blk_drewN ?_ _ | refine blk_drew ?_ | refine blk_alloc ?_ _)); refine blk_put (cs := #[.int .i64 t140106, .int .i64 0, .int .i64 0, .int .i64 0, .int .i64 0]) ?_ 1 _ rfl; (with_reducible repeat (first | refine blk_drewN ?_ _ | refine blk_drew ?_ | refine blk_alloc ?_ _)); refine blk_put (cs := #[.int .i64 0, .int .i64 0, .int .i64 0, .int .i64 0, .int .i64 0]) ?_ 0 _ rfl; (with_reducible repeat (first | refine blk_drewN ?_ _ | refine blk_drew ?_ | refine blk_alloc ?_ _)); exact BK140111.out⟩
    have n3_ : Aside0 (Below w.heap.size w (((((w18.setCell ⟨gb140111, 0, none⟩ (.int .i64 t140106)).setCell ⟨gb140111, 1, none⟩ (.int .i64 t140107)).setCell ⟨gb140111, 2, none⟩ (.int .i64 t140108)).setCell ⟨gb140111, 3, none⟩ (.int .i64 t140109)).setCell ⟨gb140111, 4, none⟩ (.int .i64 t140110))) := ⟨by repeat (first | (with_reducible first | exact HB.out | apply below_alloc | apply pw_below_drewN | apply below_drew1 | refine below_set ?_ GE140101.out | refine below_set ?_ GE140111.out) | exact HB.out)⟩
    (try clear HO140104)
    (try clear BK140101)
    (try clear BK140111)
    (try clear HB)
    generalize (((((w18.setCell ⟨gb140111, 0, none⟩ (.int .i64 t140106)).setCell ⟨gb140111, 1, none⟩ (.int .i64 t140107)).setCell ⟨gb140111, 2, none⟩ (.int .i64 t140108)).setCell ⟨gb140111, 3, none⟩ (.int .i64 t140109)).setCell ⟨gb140111, 4, none⟩ (.int .i64 t140110)) = w21 at n0_ n1_ n2_ n3_ ⊢
    have HO140104 := n0_
    have BK140101 := n1_
    have BK140111 := n2_
    have HB := n3_
    clear n0_ n1_ n2_ n3_
    have n0_ := Aside0.mk (Kd.S_drew HO140104.out)
    have n1_ := Aside0.mk (blk_drew BK140101.out)
    have n2_ := Aside0.mk (blk_drew BK140111.out)
    have n3_ := Aside0.mk (below_drew1 HB.out)
    clear HO140104
    clear BK140101
    clear BK140111
    clear HB
    have HO140104 := n0_
    have BK140101 := n1_
    have BK140111 := n2_
    have HB := n3_
    clear n0_ n1_ n2_ n3_
    refine start_ (n := 3) (S := fun w' => w'.cell? ⟨gb140111, 0, none⟩ = some (.int .i64 t140106) ∧ w'.cell? ⟨gb140111, 1, none⟩ = some (.int .i64 t140107) ∧ w'.cell? ⟨gb140111, 2, none⟩ = some (.int .i64 t140108) ∧ w'.cell? ⟨gb140111, 3, none⟩ = some (.int .i64 t140109) ∧ w'.cell? ⟨gb140111, 4, none⟩ = some (.int .i64 t140110)) (ds := []) #[false, false, false] (by kernel_rfl) rfl rfl ⟨(blk_cell BK140111.out 0).trans rfl, (blk_cell BK140111.out 1).trans rfl, (blk_cell BK140111.out 2).trans rfl, (blk_cell BK140111.out 3).trans rfl, (blk_cell BK140111.out 4).trans rfl⟩ (fun hHeld => ?_)
    generalize w21.drew = w22 at HO140104 BK140101 BK140111 HB hHeld ⊢
    refine pure_ (i := 1) (N := some 2) (v := ?_) (a' := ?_) #[false, true, false] rfl rfl (by kernel_rfl) (fun _ _ _ h => h) (Or.inl ⟨by rfl, ?_⟩) ?_ ?_
    rotate_left
    · intro w'
      go_simp
      with_reducible rfl
    rotate_left
    · simp only [Act.put, List.setIfInBounds_toArray, List.set_cons_zero, List.set_cons_succ, i64_w, i32_w]
      rfl
    refine take_ (i := 0) (N := some 16) (v := ?_) (a' := ?_) #[true, true, false] rfl rfl (by kernel_rfl) (fun _ _ _ h => h) (Or.inl ⟨by rfl, ?_⟩) hHeld ?_ ?_
    rotate_left
    · rintro w' ⟨s0, s1, s2, s3, s4⟩
      go_simp
      with_reducible rfl
    rotate_left
    · simp only [Act.put, List.setIfInBounds_toArray, List.set_cons_zero, List.set_cons_succ, i64_w, i32_w]
      rfl
    refine one_ (i := 2) (N := none) #[true, true, true] rfl rfl (by kernel_rfl) (by decide) (fun K hK => ?_)
    have hs23 : w22.cell? ⟨gb140101, 0, none⟩ = some (.int .i64 0) := (blk_cell BK140101.out 0).trans rfl
    have hfs23 := blk_frozen BK140101.out 0
    have hns23_1 := NB140111_140101.out
    have hms23_1 := NB140101_140111.out
    have hs24 : w22.cell? ⟨gb140101, 1, none⟩ = some (.int .i64 0) := (blk_cell BK140101.out 1).trans rfl
    have hfs24 := blk_frozen BK140101.out 1
    have hns24_1 := NB140111_140101.out
    have hms24_1 := NB140101_140111.out
    have hs25 : w22.cell? ⟨gb140101, 2, none⟩ = some (.int .i64 0) := (blk_cell BK140101.out 2).trans rfl
    have hfs25 := blk_frozen BK140101.out 2
    have hns25_1 := NB140111_140101.out
    have hms25_1 := NB140101_140111.out
    have hs26 : w22.cell? ⟨gb140101, 3, none⟩ = some (.int .i64 0) := (blk_cell BK140101.out 3).trans rfl
    have hfs26 := blk_frozen BK140101.out 3
    have hns26_1 := NB140111_140101.out
    have hms26_1 := NB140101_140111.out
    have hs27 : w22.cell? ⟨gb140101, 4, none⟩ = some (.int .i64 0) := (blk_cell BK140101.out 4).trans rfl
    have hfs27 := blk_frozen BK140101.out 4
    have hns27_1 := NB140111_140101.out
    have hms27_1 := NB140101_140111.out
    refine skip_ (w1 := ?_) (by rfl) rfl ?_ ?_
    rotate_left
    · go_simp
      rfl
    refine hK.out _ _ ⟨((cell_far (p := ⟨gb140101, _, none⟩) NB140111_140101.out _).trans (((cell_far (p := ⟨gb140101, _, none⟩) NB140111_140101.out _).trans (((cell_far (p := ⟨gb140101, _, none⟩) NB140111_140101.out _).trans (((cell_far (p := ⟨gb140101, _, none⟩) NB140111_140101.out _).trans (((cell_far (p := ⟨gb140101, _, none⟩) NB140111_140101.out _).trans (hHeld.1)))))))))), ((cell_far (p := ⟨gb140101, _, none⟩) NB140111_140101.out _).trans (((cell_far (p := ⟨gb140101, _, none⟩) NB140111_140101.out _).trans (((cell_far (p := ⟨gb140101, _, none⟩) NB140111_140101.out _).trans (((cell_far (p := ⟨gb140101, _, none⟩) NB140111_140101.out _).trans (((cell_far (p := ⟨gb140101, _, none⟩) NB140111_140101.out _).trans (hHeld.2.1)))))))))), ((cell_far (p := ⟨gb140101, _, none⟩) NB140111_140101.out _).trans (((cell_far (p := ⟨gb140101, _, none⟩) NB140111_140101.out _).trans (((cell_far (p := ⟨gb140101, _, none⟩) NB140111_140101.out _).trans (((cell_far (p := ⟨gb140101, _, none⟩) NB140111_140101.out _).trans (((cell_far (p := ⟨gb140101, _, none⟩) NB140111_140101.out _).trans (hHeld.2.2.1)))))))))), ((cell_far (p := ⟨gb140101, _, none⟩) NB140111_140101.out _).trans (((cell_far (p := ⟨gb140101, _, none⟩) NB140111_140101.out _).trans (((cell_far (p := ⟨gb140101, _, none⟩) NB140111_140101.out _).trans (((cell_far (p := ⟨gb140101, _, none⟩) NB140111_140101.out _).trans (((cell_far (p := ⟨gb140101, _, none⟩) NB140111_140101.out _).trans (hHeld.2.2.2.1)))))))))), ((cell_far (p := ⟨gb140101, _, none⟩) NB140111_140101.out _).trans (((cell_far (p := ⟨gb140101, _, none⟩) NB140111_140101.out _).trans (((cell_far (p := ⟨gb140101, _, none⟩) NB140111_140101.out _).trans (((cell_far (p := ⟨gb140101, _, none⟩) NB140111_140101.out _).trans (((cell_far (p := ⟨gb140101, _, none⟩) NB140111_140101.out _).trans (hHeld.2.2.2.2))))))))))⟩ (fun hHeld => ?_)
    clear hK K
    refine done_ (by kernel_rfl) ?_
    try go_wp2
    refine bodyPost_ret (results_tc rfl _ _ gb140101 41 #[.int .i64 t140106, .int .i64 t140107, .int .i64 t140108, .int .i64 t140109, .int .i64 t140110] (0, 0) _ rfl (by (with_reducible repeat (first | refine blk_drewN ?_ _ | refine blk_drew ?_ | refine blk_alloc ?_ _)); refine blk_put (cs := #[.int .i64 t140106, .int .i64 t140107, .int .i64 t140108, .int .i64 t140109, .int .i64 0]) ?_ 4 _ rfl; (with_reducible repeat (first | refine blk_drewN ?_ _ | refine blk_drew ?_ | refine blk_alloc ?_ _)); refine blk_put (cs := #[.int .i64 t140106, .int .i64 t140107, .int .i64 t140108, .int .i64 0, .int .i64 0]) ?_ 3 _ rfl; (with_reducible repeat (first | refine blk_drewN ?_ _ | refine blk_drew ?_ | refine blk_alloc ?_ _)); refine blk_put (cs := #[.int .i64 t140106, .int .i64 t140107, .int .i64 0, .int .i64 0, .int .i64 0]) ?_ 2 _ rfl; (with_reducible repeat (first | refine blk_drewN ?_ _ | refine blk_drew ?_ | refine blk_alloc ?_ _)); refine blk_put (cs := #[.int .i64 t140106, .int .i64 0, .int .i64 0, .int .i64 0, .int .i64 0]) ?_ 1 _ rfl; (with_reducible repeat (first | refine blk_drewN ?_ _ | refine blk_drew ?_ | refine blk_alloc ?_ _)); refine blk_put (cs := #[.int .i64 0, .int .i64 0, .int .i64 0, .int .i64 0, .int .i64 0]) ?_ 0 _ rfl; (with_reducible repeat (first | refine blk_drewN ?_ _ | refine blk_drew ?_ | refine blk_alloc ?_ _)); exact BK140101.out) Tryd.underlying41 rfl (by kernel_rfl)) rfl ?_
    exact ⟨_, by first | rfl | (simp [errW_none, errW_some] <;> rfl) | (simp [*, errW_none, errW_some] <;> rfl), by first | exact Kd.S_nil _ _ _ _ _ | exact Kd.N_nil _ _ _ _ _ | exact Kd.V_nil _ _ _ _ _ | exact Kd.Q_nil _ _ _ _ _ | exact Kd.R_nil _ _ _ _ _, by repeat (first | (with_reducible first | exact HB.out | apply below_alloc | apply pw_below_drewN | apply below_drew1 | refine below_set ?_ GE140101.out | refine below_set ?_ GE140111.out) | exact HB.out)⟩

end Go.Proofs.YtinjlpodcabfaaaDoor.GS
