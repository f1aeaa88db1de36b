-- written by a program (gp.py over the kit's print) for this claim
import Derived.Test.YtiklakkkgmilnaaDoorGCx0
import Derived.Test.YtiklakkkgmilnaaDoorGCxe23
import Derived.Test.YtiklakkkgmilnaaDoorGCxf14
import Derived.Test.YtiklakkkgmilnaaDoorGCxf13
import Derived.Test.YtiklakkkgmilnaaDoorGCxf29
import Derived.Test.YtiklakkkgmilnaaDoorCalDateC
namespace Go.Proofs.YtiklakkkgmilnaaDoor.GC
open Go.RowKit Go.Proofs.YtiklakkkgmilnaaDoorW.PrintWords Go.Proofs.YtiklakkkgmilnaaDoorW.PrintLast Go.Proofs.YtiklakkkgmilnaaDoor.Ext Go.Proofs.YtiklakkkgmilnaaDoor.PCal
attribute [local go_sem] max2_int min2_int max_two min_two   -- for this text alone
set_option linter.unusedVariables false
set_option linter.unusedSimpArgs false

attribute [local go_sem high] eqA23
/-! ### larderlaw03_CalRound: function 8 -/
mutual
def larderlaw03_CalRound.j0 : Nat → Int → Int → List ByteArray → List ByteArray → Bool → Int → Int → Int → Option (Bool)
  | 0, _, _, _, _, _, _, _, _ => none
  | k + 1, x5, x6, x8, x10, x41, x80107000, x80107001, x80107002 => if x41 = true then (some false) else (larderlaw03_CalRound.l0 k x5 x6 x8 x10 0 x80107000 x80107001 x80107002)
def larderlaw03_CalRound.l0 : Nat → Int → Int → List ByteArray → List ByteArray → Int → Int → Int → Int → Option (Bool)
  | 0, _, _, _, _, _, _, _, _ => none
  | k + 1, x5, x6, x8, x10, x12, x80107000, x80107001, x80107002 => if x12 < 6 then (if 0 ≤ x12 then (if x12 < (x8.length : Int) then ((cal_ParseDate.f (rdOf ByteArray.empty x8 x12)).bind fun bt80119 => (if (!(bt80119.1 == x80107000) || (!(bt80119.2.1 == x80107001) || (!(bt80119.2.2.1 == x80107002)))) = true then (some false) else (if bt80119.2.2.2.1 = 0 then (if bt80119.2.2.2.2 = 0 then (larderlaw03_CalRound.l0 k x5 x6 x8 x10 (wrap64 (x12 + 1)) x80107000 x80107001 x80107002) else (some false)) else (some false)))) else (none)) else (none)) else (if 0 < (x8.length : Int) then (if ((rdOf ByteArray.empty x8 0).size : Int) = 10 then (if 2 < (x8.length : Int) then (if ((rdOf ByteArray.empty x8 2).size : Int) = 8 then (if 4 < (x8.length : Int) then (larderlaw03_CalRound.j2 k x5 x6 x8 x10 (((rdOf ByteArray.empty x8 4).size : Int) != 10)) else (none)) else (larderlaw03_CalRound.j2 k x5 x6 x8 x10 true)) else (none)) else (larderlaw03_CalRound.j2 k x5 x6 x8 x10 true)) else (none))
def larderlaw03_CalRound.j2 : Nat → Int → Int → List ByteArray → List ByteArray → Bool → Option (Bool)
  | 0, _, _, _, _, _ => none
  | k + 1, x5, x6, x8, x10, x84 => if x84 = true then (some false) else (if 0 < (x8.length : Int) then (if 0 ≤ 4 then (if 4 ≤ ((rdOf ByteArray.empty x8 0).size : Int) then (if 5 ≤ 7 then (if 7 ≤ ((rdOf ByteArray.empty x8 0).size : Int) then (if ((rdOf ByteArray.empty x8 0).extract 0 4).size + ((rdOf ByteArray.empty x8 0).extract 5 7).size ≤ 9223372036854775807 then (if 8 ≤ ((rdOf ByteArray.empty x8 0).size : Int) then (if ((rdOf ByteArray.empty x8 0).extract 0 4).size + ((rdOf ByteArray.empty x8 0).extract 5 7).size + ((rdOf ByteArray.empty x8 0).extract 8 (rdOf ByteArray.empty x8 0).size).size ≤ 9223372036854775807 then (if 2 < (x8.length : Int) then (if 4 ≤ ((rdOf ByteArray.empty x8 2).size : Int) then (if 5 ≤ ((rdOf ByteArray.empty x8 2).size : Int) then (if ((rdOf ByteArray.empty x8 2).extract 0 4).size + ((rdOf ByteArray.empty x8 2).extract 5 (rdOf ByteArray.empty x8 2).size).size ≤ 9223372036854775807 then (if 4 < (x8.length : Int) then (if 4 ≤ ((rdOf ByteArray.empty x8 4).size : Int) then (if 5 ≤ 8 then (if 8 ≤ ((rdOf ByteArray.empty x8 4).size : Int) then (if ((rdOf ByteArray.empty x8 4).extract 0 4).size + ((rdOf ByteArray.empty x8 4).extract 5 8).size ≤ 9223372036854775807 then (if 9 ≤ ((rdOf ByteArray.empty x8 4).size : Int) then (if ((rdOf ByteArray.empty x8 4).extract 0 4).size + ((rdOf ByteArray.empty x8 4).extract 5 8).size + ((rdOf ByteArray.empty x8 4).extract 9 (rdOf ByteArray.empty x8 4).size).size ≤ 9223372036854775807 then (if 1 < (x8.length : Int) then (if (rdOf ByteArray.empty x8 1).toList = ((((rdOf ByteArray.empty x8 0).extract 0 4) ++ ((rdOf ByteArray.empty x8 0).extract 5 7)) ++ ((rdOf ByteArray.empty x8 0).extract 8 (rdOf ByteArray.empty x8 0).size)).toList then (if 3 < (x8.length : Int) then (if (rdOf ByteArray.empty x8 3).toList = (((rdOf ByteArray.empty x8 2).extract 0 4) ++ ((rdOf ByteArray.empty x8 2).extract 5 (rdOf ByteArray.empty x8 2).size)).toList then (if 5 < (x8.length : Int) then (if (rdOf ByteArray.empty x8 5).toList = ((((rdOf ByteArray.empty x8 4).extract 0 4) ++ ((rdOf ByteArray.empty x8 4).extract 5 8)) ++ ((rdOf ByteArray.empty x8 4).extract 9 (rdOf ByteArray.empty x8 4).size)).toList then (if 0 < (x10.length : Int) then (if ((Op.bytesLess ((rdOf ByteArray.empty x8 0).toList) ((rdOf ByteArray.empty x10 0).toList)) == (decide (x5 < x6))) = true then (if 1 < (x10.length : Int) then (if ((Op.bytesLess ((rdOf ByteArray.empty x8 1).toList) ((rdOf ByteArray.empty x10 1).toList)) == (decide (x5 < x6))) = true then (if 2 < (x10.length : Int) then (if ((Op.bytesLess ((rdOf ByteArray.empty x8 2).toList) ((rdOf ByteArray.empty x10 2).toList)) == (decide (x5 < x6))) = true then (if 4 < (x10.length : Int) then (some ((Op.bytesLess ((rdOf ByteArray.empty x8 4).toList) ((rdOf ByteArray.empty x10 4).toList)) == (decide (x5 < x6)))) else (none)) else (some false)) else (none)) else (some false)) else (none)) else (some false)) else (none)) else (some false)) else (none)) else (some false)) else (none)) else (some false)) else (none)) else (none)) else (none)) else (none)) else (none)) else (none)) else (none)) else (none)) else (none)) else (none)) else (none)) else (none)) else (none)) else (none)) else (none)) else (none)) else (none)) else (none)) else (none)) else (none))
end
def larderlaw03_CalRound.f (k : Nat) (a0 : Int) (a1 : Int) : Option (Bool) := (larderlaw03_within.f a0 2 3652424).bind fun t80101 => ((larderlaw03_within.f a1 2 3652424).bind fun t80102 => ((larderlaw03_at.f k t80101).bind fun bt80103 => ((larderlaw03_forms.f k bt80103.1 bt80103.2.1 bt80103.2.2).bind fun bt80107 => ((larderlaw03_at.f k t80102).bind fun bt80111 => ((larderlaw03_forms.f k bt80111.1 bt80111.2.1 bt80111.2.2).bind fun bt80114 => (if bt80107.2 = true then (larderlaw03_CalRound.j0 k t80101 t80102 bt80107.1 bt80114.1 (!bt80114.2) bt80103.1 bt80103.2.1 bt80103.2.2) else (larderlaw03_CalRound.j0 k t80101 t80102 bt80107.1 bt80114.1 true bt80103.1 bt80103.2.1 bt80103.2.2)))))))
theorem larderlaw03_CalRound.mono_l : ∀ k, (∀ y0 y1 y2 y3 y4 y5 y6 y7, LeO (larderlaw03_CalRound.j0 k y0 y1 y2 y3 y4 y5 y6 y7) (larderlaw03_CalRound.j0 (k + 1) y0 y1 y2 y3 y4 y5 y6 y7)) ∧ (∀ y0 y1 y2 y3 y4 y5 y6 y7, LeO (larderlaw03_CalRound.l0 k y0 y1 y2 y3 y4 y5 y6 y7) (larderlaw03_CalRound.l0 (k + 1) y0 y1 y2 y3 y4 y5 y6 y7)) ∧ (∀ y0 y1 y2 y3 y4, LeO (larderlaw03_CalRound.j2 k y0 y1 y2 y3 y4) (larderlaw03_CalRound.j2 (k + 1) y0 y1 y2 y3 y4))
  | 0 => ⟨fun _ _ _ _ _ _ _ _ r h => by simp [larderlaw03_CalRound.j0] at h, fun _ _ _ _ _ _ _ _ r h => by simp [larderlaw03_CalRound.l0] at h, fun _ _ _ _ _ r h => by simp [larderlaw03_CalRound.j2] at h⟩
  | k + 1 => by
    obtain ⟨ih0, ih1, ih2⟩ := larderlaw03_CalRound.mono_l k
    refine ⟨?_, ?_, ?_⟩
    · intro y0 y1 y2 y3 y4 y5 y6 y7
      unfold larderlaw03_CalRound.j0
      repeat' first
      | (with_reducible exact ih0 _ _ _ _ _ _ _ _)
      | (with_reducible exact ih1 _ _ _ _ _ _ _ _)
      | (with_reducible exact ih2 _ _ _ _ _)
      | (with_reducible exact larderlaw03_at.mono _ _)
      | (with_reducible exact larderlaw03_forms.mono _ _ _ _)
      | (with_reducible exact LeO.refl _)
      | (with_reducible exact LeO.none _)
      | (with_reducible refine LeO.ite ?_ ?_)
      | (with_reducible refine LeO.bind ?_ (fun _ => ?_))
      | exact ih0 _ _ _ _ _ _ _ _
      | exact ih1 _ _ _ _ _ _ _ _
      | exact ih2 _ _ _ _ _
      | exact larderlaw03_at.mono _ _
      | exact larderlaw03_forms.mono _ _ _ _
      | exact LeO.none _
      | refine LeO.ite ?_ ?_
      | refine LeO.bind ?_ (fun _ => ?_)
    · intro y0 y1 y2 y3 y4 y5 y6 y7
      unfold larderlaw03_CalRound.l0
      repeat' first
      | (with_reducible exact ih0 _ _ _ _ _ _ _ _)
      | (with_reducible exact ih1 _ _ _ _ _ _ _ _)
      | (with_reducible exact ih2 _ _ _ _ _)
      | (with_reducible exact larderlaw03_at.mono _ _)
      | (with_reducible exact larderlaw03_forms.mono _ _ _ _)
      | (with_reducible exact LeO.refl _)
      | (with_reducible exact LeO.none _)
      | (with_reducible refine LeO.ite ?_ ?_)
      | (with_reducible refine LeO.bind ?_ (fun _ => ?_))
      | exact ih0 _ _ _ _ _ _ _ _
      | exact ih1 _ _ _ _ _ _ _ _
      | exact ih2 _ _ _ _ _
      | exact larderlaw03_at.mono _ _
      | exact larderlaw03_forms.mono _ _ _ _
      | exact LeO.none _
      | refine LeO.ite ?_ ?_
      | refine LeO.bind ?_ (fun _ => ?_)
    · intro y0 y1 y2 y3 y4
      unfold larderlaw03_CalRound.j2
      repeat' first
      | (with_reducible exact ih0 _ _ _ _ _ _ _ _)
      | (with_reducible exact ih1 _ _ _ _ _ _ _ _)
      | (with_reducible exact ih2 _ _ _ _ _)
      | (with_reducible exact larderlaw03_at.mono _ _)
      | (with_reducible exact larderlaw03_forms.mono _ _ _ _)
      | (with_reducible exact LeO.refl _)
      | (with_reducible exact LeO.none _)
      | (with_reducible refine LeO.ite ?_ ?_)
      | (with_reducible refine LeO.bind ?_ (fun _ => ?_))
      | exact ih0 _ _ _ _ _ _ _ _
      | exact ih1 _ _ _ _ _ _ _ _
      | exact ih2 _ _ _ _ _
      | exact larderlaw03_at.mono _ _
      | exact larderlaw03_forms.mono _ _ _ _
      | exact LeO.none _
      | refine LeO.ite ?_ ?_
      | refine LeO.bind ?_ (fun _ => ?_)
theorem larderlaw03_CalRound.mono : ∀ a0 a1 k, LeO (larderlaw03_CalRound.f k a0 a1) (larderlaw03_CalRound.f (k + 1) a0 a1) := by
  intro a0 a1 k
  obtain ⟨ih0, ih1, ih2⟩ := larderlaw03_CalRound.mono_l k
  unfold larderlaw03_CalRound.f
  repeat' first
      | (with_reducible exact ih0 _ _ _ _ _ _ _ _)
      | (with_reducible exact ih1 _ _ _ _ _ _ _ _)
      | (with_reducible exact ih2 _ _ _ _ _)
      | (with_reducible exact larderlaw03_at.mono _ _)
      | (with_reducible exact larderlaw03_forms.mono _ _ _ _)
      | (with_reducible exact LeO.refl _)
      | (with_reducible exact LeO.none _)
      | (with_reducible refine LeO.ite ?_ ?_)
      | (with_reducible refine LeO.bind ?_ (fun _ => ?_))
      | exact ih0 _ _ _ _ _ _ _ _
      | exact ih1 _ _ _ _ _ _ _ _
      | exact ih2 _ _ _ _ _
      | exact larderlaw03_at.mono _ _
      | exact larderlaw03_forms.mono _ _ _ _
      | exact LeO.none _
      | refine LeO.ite ?_ ?_
      | refine LeO.bind ?_ (fun _ => ?_)
set_option maxHeartbeats 8000000 in
set_option maxRecDepth 100000 in
theorem larderlaw03_CalRound.calls (k : Nat) (a0 : Int) (a1 : Int) (r : Bool) (w : World) (hG : GlobOk w) (h : larderlaw03_CalRound.f k a0 a1 = some r) :
    Calls Tryd.prog 8 #[.int .i64 a0, .int .i64 a1] w fun e w' => e = .returned (.bool r) ∧ Below w.heap.size w w' := by
  have HG := Aside0.mk hG
  clear hG
  have hu23 := Tryd.underlying23
  have HB := Aside0.mk (Below.refl w.heap.size w)
  have H : ((larderlaw03_within.f a0 2 3652424).bind fun t80101 => ((larderlaw03_within.f a1 2 3652424).bind fun t80102 => ((larderlaw03_at.f k t80101).bind fun bt80103 => ((larderlaw03_forms.f k bt80103.1 bt80103.2.1 bt80103.2.2).bind fun bt80107 => ((larderlaw03_at.f k t80102).bind fun bt80111 => ((larderlaw03_forms.f k bt80111.1 bt80111.2.1 bt80111.2.2).bind fun bt80114 => (if bt80107.2 = true then (larderlaw03_CalRound.j0 k t80101 t80102 bt80107.1 bt80114.1 (!bt80114.2) bt80103.1 bt80103.2.1 bt80103.2.2) else (larderlaw03_CalRound.j0 k t80101 t80102 bt80107.1 bt80114.1 true bt80103.1 bt80103.2.1 bt80103.2.2)))))))) = some r := h
  clear h
  replace H := Option.bind_eq_some_iff.mp H
  obtain ⟨t80101, A30, H⟩ := H
  replace H : ((larderlaw03_within.f a1 2 3652424).bind fun t80102 => ((larderlaw03_at.f k t80101).bind fun bt80103 => ((larderlaw03_forms.f k bt80103.1 bt80103.2.1 bt80103.2.2).bind fun bt80107 => ((larderlaw03_at.f k t80102).bind fun bt80111 => ((larderlaw03_forms.f k bt80111.1 bt80111.2.1 bt80111.2.2).bind fun bt80114 => (if bt80107.2 = true then (larderlaw03_CalRound.j0 k t80101 t80102 bt80107.1 bt80114.1 (!bt80114.2) bt80103.1 bt80103.2.1 bt80103.2.2) else (larderlaw03_CalRound.j0 k t80101 t80102 bt80107.1 bt80114.1 true bt80103.1 bt80103.2.1 bt80103.2.2))))))) = some r := H
  have A3 := Aside0.mk A30
  clear A30
  replace H := Option.bind_eq_some_iff.mp H
  obtain ⟨t80102, A40, H⟩ := H
  replace H : ((larderlaw03_at.f k t80101).bind fun bt80103 => ((larderlaw03_forms.f k bt80103.1 bt80103.2.1 bt80103.2.2).bind fun bt80107 => ((larderlaw03_at.f k t80102).bind fun bt80111 => ((larderlaw03_forms.f k bt80111.1 bt80111.2.1 bt80111.2.2).bind fun bt80114 => (if bt80107.2 = true then (larderlaw03_CalRound.j0 k t80101 t80102 bt80107.1 bt80114.1 (!bt80114.2) bt80103.1 bt80103.2.1 bt80103.2.2) else (larderlaw03_CalRound.j0 k t80101 t80102 bt80107.1 bt80114.1 true bt80103.1 bt80103.2.1 bt80103.2.2)))))) = some r := H
  have A4 := Aside0.mk A40
  clear A40
  replace H := Option.bind_eq_some_iff.mp H
  obtain ⟨⟨t80103, t80104, t80105⟩, A50, H⟩ := H
  replace H : ((larderlaw03_forms.f k t80103 t80104 t80105).bind fun bt80107 => ((larderlaw03_at.f k t80102).bind fun bt80111 => ((larderlaw03_forms.f k bt80111.1 bt80111.2.1 bt80111.2.2).bind fun bt80114 => (if bt80107.2 = true then (larderlaw03_CalRound.j0 k t80101 t80102 bt80107.1 bt80114.1 (!bt80114.2) t80103 t80104 t80105) else (larderlaw03_CalRound.j0 k t80101 t80102 bt80107.1 bt80114.1 true t80103 t80104 t80105))))) = some r := H
  have A5 := Aside0.mk A50
  clear A50
  replace H := Option.bind_eq_some_iff.mp H
  obtain ⟨⟨t80107, t80110⟩, A60, H⟩ := H
  replace H : ((larderlaw03_at.f k t80102).bind fun bt80111 => ((larderlaw03_forms.f k bt80111.1 bt80111.2.1 bt80111.2.2).bind fun bt80114 => (if t80110 = true then (larderlaw03_CalRound.j0 k t80101 t80102 t80107 bt80114.1 (!bt80114.2) t80103 t80104 t80105) else (larderlaw03_CalRound.j0 k t80101 t80102 t80107 bt80114.1 true t80103 t80104 t80105)))) = some r := H
  have A6 := Aside0.mk A60
  clear A60
  replace H := Option.bind_eq_some_iff.mp H
  obtain ⟨⟨t80111, t80112, t80113⟩, A70, H⟩ := H
  replace H : ((larderlaw03_forms.f k t80111 t80112 t80113).bind fun bt80114 => (if t80110 = true then (larderlaw03_CalRound.j0 k t80101 t80102 t80107 bt80114.1 (!bt80114.2) t80103 t80104 t80105) else (larderlaw03_CalRound.j0 k t80101 t80102 t80107 bt80114.1 true t80103 t80104 t80105))) = some r := H
  have A7 := Aside0.mk A70
  clear A70
  replace H := Option.bind_eq_some_iff.mp H
  obtain ⟨⟨t80114, t80117⟩, A80, H⟩ := H
  replace H : (if t80110 = true then (larderlaw03_CalRound.j0 k t80101 t80102 t80107 t80114 (!t80117) t80103 t80104 t80105) else (larderlaw03_CalRound.j0 k t80101 t80102 t80107 t80114 true t80103 t80104 t80105)) = some r := H
  have A8 := Aside0.mk A80
  clear A80
  have HC9 := Aside0.mk H
  clear H
  go_enter Tryd.func8, Tryd.ntmps8
  go_upto_region 6 with (first | (go_at_call 14; (with_reducible refine (larderlaw03_within.calls a0 2 3652424 t80101 _ A3.out).mono ?_); rintro e w' ⟨rfl, ⟨nd, rfl⟩⟩; (try first | exact ⟨rfl, _, World.drewN_drewN _ _ _⟩ | exact ⟨rfl, _, Eq.trans (World.drewN_drewN _ _ _) (congrArg (World.drewN _) (Nat.add_assoc _ _ _))⟩)) | (go_at_call 14; (with_reducible refine (larderlaw03_within.calls a1 2 3652424 t80102 _ A4.out).mono ?_); rintro e w' ⟨rfl, ⟨nd, rfl⟩⟩; (try first | exact ⟨rfl, _, World.drewN_drewN _ _ _⟩ | exact ⟨rfl, _, Eq.trans (World.drewN_drewN _ _ _) (congrArg (World.drewN _) (Nat.add_assoc _ _ _))⟩)) | (go_at_call 13; (with_reducible refine (larderlaw03_at.calls k t80101 t80103 t80104 t80105 _ ?side1 A5.out).mono ?_); (case side1 => refine GlobOk.below HG.out ?_; repeat (first | (with_reducible first | exact HB.out | apply below_alloc | apply pw_below_drewN | apply below_drew1) | exact HB.out)); rintro e w10 ⟨rfl, hb⟩; have n0_ := Aside0.mk (below_step (by repeat (first | (with_reducible first | exact HB.out | apply below_alloc | apply pw_below_drewN | apply below_drew1) | exact HB.out)) hb); clear HB; have HB := n0_; clear n0_; (try clear hb); (try clear hb2); (try clear hk); (try clear hi)) | ((with_reducible refine gate_dst (N := 7) rfl ?_); refine box_event ?hg (N := 7) ?hd (cs := #[.int .i64 0, .int .i64 0, .int .i64 0]) (t := 23) ?hr ?_; (case hd => rfl); (case hg => rfl); (case hr => first | (go_simp; done) | (go_simp; rfl)); intro gb80106 hg w11 hbox hb; have n0_ := Aside0.mk (below_step (by repeat (first | (with_reducible first | exact HB.out | apply below_alloc | apply pw_below_drewN | apply below_drew1) | exact HB.out)) hb); have n1_ := Aside0.mk (hbox); have n2_ := Aside0.mk ((by rw [hg]; exact (below_size (by repeat (first | (with_reducible first | exact HB.out | apply below_alloc | apply pw_below_drewN | apply below_drew1) | exact HB.out))) : w.heap.size ≤ gb80106)); have n3_ := Aside0.mk ((by rw [hg]; exact (below_size (by repeat (first | (with_reducible first | exact HB.out | apply below_alloc | apply pw_below_drewN | apply below_drew1) | exact HB.out))) : w.heap.size ≤ gb80106)); clear HB; have HB := n0_; have BK80106 := n1_; have GW80106 := n2_; have GE80106 := n3_; clear n0_ n1_ n2_ n3_; clear hb hbox hg; have hcz12_0 : w11.cell? ⟨gb80106, 0, none⟩ = some (.int .i64 0) := (blk_cell BK80106.out 0).trans rfl; have hcz12_1 : w11.cell? ⟨gb80106, 1, none⟩ = some (.int .i64 0) := (blk_cell BK80106.out 1).trans rfl; have hcz12_2 : w11.cell? ⟨gb80106, 2, none⟩ = some (.int .i64 0) := (blk_cell BK80106.out 2).trans rfl; have hfz12_0 := blk_frozen BK80106.out 0; have hfz12_1 := blk_frozen BK80106.out 1; have hfz12_2 := blk_frozen BK80106.out 2) | (go_at_call 29; (with_reducible refine (larderlaw03_forms.calls k t80103 t80104 t80105 t80107 t80110 _ ?side1 A6.out).mono ?_); (case side1 => refine GlobOk.below HG.out ?_; repeat (first | (with_reducible first | exact HB.out | apply below_alloc | apply pw_below_drewN | apply below_drew1 | refine below_set ?_ GE80106.out) | exact HB.out)); rintro e w13 ⟨v80108, rfl, ho0, hb⟩; have n0_ := Aside0.mk (Kd.R_lower ho0 (below_size (by repeat (first | (with_reducible first | exact HB.out | apply below_alloc | apply pw_below_drewN | apply below_drew1 | refine below_set ?_ GE80106.out) | exact HB.out)))); have n1_ := Aside0.mk (blk_below (g := gb80106) (o := .cells #[.int .i64 t80103, .int .i64 t80104, .int .i64 t80105] 23 (0, 0)) (by (with_reducible repeat (first | refine blk_drewN ?_ _ | refine blk_drew ?_ | refine blk_alloc ?_ _)); refine blk_put (cs := #[.int .i64 t80103, .int .i64 t80104, .int .i64 0]) ?_ 2 _ rfl; (with_reducible repeat (first | refine blk_drewN ?_ _ | refine blk_drew ?_ | refine blk_alloc ?_ _)); refine blk_put (cs := #[.int .i64 t80103, .int .i64 0, .int .i64 0]) ?_ 1 _ rfl; (with_reducible repeat (first | refine blk_drewN ?_ _ | refine blk_drew ?_ | refine blk_alloc ?_ _)); refine blk_put (cs := #[.int .i64 0, .int .i64 0, .int .i64 0]) ?_ 0 _ rfl; (with_reducible repeat (first | refine blk_drewN ?_ _ | refine blk_drew ?_ | refine blk_alloc ?_ _)); exact BK80106.out) hb); have n2_ := Aside0.mk (below_step (by repeat (first | (with_reducible first | exact HB.out | apply below_alloc | apply pw_below_drewN | apply below_drew1 | refine below_set ?_ GE80106.out) | exact HB.out)) hb); clear BK80106; clear HB; have HO80109 := n0_; have BK80106 := n1_; have HB := n2_; clear n0_ n1_ n2_; (try clear hb); (try clear hb2); (try clear hk); (try clear hi); (try clear ho0)) | (go_at_call 13; (with_reducible refine (larderlaw03_at.calls k t80102 t80111 t80112 t80113 _ ?side1 A7.out).mono ?_); (case side1 => refine GlobOk.below HG.out ?_; repeat (first | (with_reducible first | exact HB.out | apply below_alloc | apply pw_below_drewN | apply below_drew1 | refine below_set ?_ GE80106.out) | exact HB.out)); rintro e w14 ⟨rfl, hb⟩; have n0_ := Aside0.mk (Kd.R_below (by (with_reducible repeat (first | apply Kd.R_alloc | apply Kd.R_drewN | apply Kd.R_drew)); exact HO80109.out) hb); have n1_ := Aside0.mk (blk_below (g := gb80106) (o := .cells #[.int .i64 t80103, .int .i64 t80104, .int .i64 t80105] 23 (0, 0)) (by (with_reducible repeat (first | refine blk_drewN ?_ _ | refine blk_drew ?_ | refine blk_alloc ?_ _)); exact BK80106.out) hb); have n2_ := Aside0.mk (below_step (by repeat (first | (with_reducible first | exact HB.out | apply below_alloc | apply pw_below_drewN | apply below_drew1 | refine below_set ?_ GE80106.out) | exact HB.out)) hb); clear HO80109; clear BK80106; clear HB; have HO80109 := n0_; have BK80106 := n1_; have HB := n2_; clear n0_ n1_ n2_; (try clear hb); (try clear hb2); (try clear hk); (try clear hi)) | (go_at_call 29; (with_reducible refine (larderlaw03_forms.calls k t80111 t80112 t80113 t80114 t80117 _ ?side1 A8.out).mono ?_); (case side1 => refine GlobOk.below HG.out ?_; repeat (first | (with_reducible first | exact HB.out | apply below_alloc | apply pw_below_drewN | apply below_drew1 | refine below_set ?_ GE80106.out) | exact HB.out)); rintro e w15 ⟨v80115, rfl, ho0, hb⟩; have n0_ := Aside0.mk (Kd.R_elder' (by (with_reducible repeat (first | apply Kd.R_alloc | apply Kd.R_drewN | apply Kd.R_drew)); exact HO80109.out) (Kd.R_base ho0) hb); have n1_ := Aside0.mk (Kd.R_lower (Kd.R_new' ho0 (Kd.R_lt (by (with_reducible repeat (first | apply Kd.R_alloc | apply Kd.R_drewN | apply Kd.R_drew)); exact HO80109.out))) (below_size (by repeat (first | (with_reducible first | exact HB.out | apply below_alloc | apply pw_below_drewN | apply below_drew1 | refine below_set ?_ GE80106.out) | exact HB.out)))); have n2_ := Aside0.mk (blk_below (g := gb80106) (o := .cells #[.int .i64 t80103, .int .i64 t80104, .int .i64 t80105] 23 (0, 0)) (by (with_reducible repeat (first | refine blk_drewN ?_ _ | refine blk_drew ?_ | refine blk_alloc ?_ _)); exact BK80106.out) hb); have n3_ := Aside0.mk (below_step (by repeat (first | (with_reducible first | exact HB.out | apply below_alloc | apply pw_below_drewN | apply below_drew1 | refine below_set ?_ GE80106.out) | exact HB.out)) hb); clear HO80109; clear BK80106; clear HB; have HO80109 := n0_; have HO80116 := n1_; have BK80106 := n2_; have HB := n3_; clear n0_ n1_ n2_ n3_; (try clear hb); (try clear hb2); (try clear hk); (try clear hi); (try clear ho0)))
  repeat (go_quiet (first | (go_at_call 14; (with_reducible refine (larderlaw03_within.calls a0 2 3652424 t80101 _ A3.out).mono ?_); rintro e w' ⟨rfl, ⟨nd, rfl⟩⟩; (try first | exact ⟨rfl, _, World.drewN_drewN _ _ _⟩ | exact ⟨rfl, _, Eq.trans (World.drewN_drewN _ _ _) (congrArg (World.drewN _) (Nat.add_assoc _ _ _))⟩)) | (go_at_call 14; (with_reducible refine (larderlaw03_within.calls a1 2 3652424 t80102 _ A4.out).mono ?_); rintro e w' ⟨rfl, ⟨nd, rfl⟩⟩; (try first | exact ⟨rfl, _, World.drewN_drewN _ _ _⟩ | exact ⟨rfl, _, Eq.trans (World.drewN_drewN _ _ _) (congrArg (World.drewN _) (Nat.add_assoc _ _ _))⟩)) | (go_at_call 13; (with_reducible refine (larderlaw03_at.calls k t80101 t80103 t80104 t80105 _ ?side1 A5.out).mono ?_); (case side1 => refine GlobOk.below HG.out ?_; repeat (first | (with_reducible first | exact HB.out | apply below_alloc | apply pw_below_drewN | apply below_drew1) | exact HB.out)); rintro e w10 ⟨rfl, hb⟩; have n0_ := Aside0.mk (below_step (by repeat (first | (with_reducible first | exact HB.out | apply below_alloc | apply pw_below_drewN | apply below_drew1) | exact HB.out)) hb); clear HB; have HB := n0_; clear n0_; (try clear hb); (try clear hb2); (try clear hk); (try clear hi)) | ((with_reducible refine gate_dst (N := 7) rfl ?_); refine box_event ?hg (N := 7) ?hd (cs := #[.int .i64 0, .int .i64 0, .int .i64 0]) (t := 23) ?hr ?_; (case hd => rfl); (case hg => rfl); (case hr => first | (go_simp; done) | (go_simp; rfl)); intro gb80106 hg w11 hbox hb; have n0_ := Aside0.mk (below_step (by repeat (first | (with_reducible first | exact HB.out | apply below_alloc | apply pw_below_drewN | apply below_drew1) | exact HB.out)) hb); have n1_ := Aside0.mk (hbox); have n2_ := Aside0.mk ((by rw [hg]; exact (below_size (by repeat (first | (with_reducible first | exact HB.out | apply below_alloc | apply pw_below_drewN | apply below_drew1) | exact HB.out))) : w.heap.size ≤ gb80106)); have n3_ := Aside0.mk ((by rw [hg]; exact (below_size (by repeat (first | (with_reducible first | exact HB.out | apply below_alloc | apply pw_below_drewN | apply below_drew1) | exact HB.out))) : w.heap.size ≤ gb80106)); clear HB; have HB := n0_; have BK80106 := n1_; have GW80106 := n2_; have GE80106 := n3_; clear n0_ n1_ n2_ n3_; clear hb hbox hg; have hcz12_0 : w11.cell? ⟨gb80106, 0, none⟩ = some (.int .i64 0) := (blk_cell BK80106.out 0).trans rfl; have hcz12_1 : w11.cell? ⟨gb80106, 1, none⟩ = some (.int .i64 0) := (blk_cell BK80106.out 1).trans rfl; have hcz12_2 : w11.cell? ⟨gb80106, 2, none⟩ = some (.int .i64 0) := (blk_cell BK80106.out 2).trans rfl; have hfz12_0 := blk_frozen BK80106.out 0; have hfz12_1 := blk_frozen BK80106.out 1; have hfz12_2 := blk_frozen BK80106.out 2) | (go_at_call 29; (with_reducible refine (larderlaw03_forms.calls k t80103 t80104 t80105 t80107 t80110 _ ?side1 A6.out).mono ?_); (case side1 => refine GlobOk.below HG.out ?_; repeat (first | (with_reducible first | exact HB.out | apply below_alloc | apply pw_below_drewN | apply below_drew1 | refine below_set ?_ GE80106.out) | exact HB.out)); rintro e w13 ⟨v80108, rfl, ho0, hb⟩; have n0_ := Aside0.mk (Kd.R_lower ho0 (below_size (by repeat (first | (with_reducible first | exact HB.out | apply below_alloc | apply pw_below_drewN | apply below_drew1 | refine below_set ?_ GE80106.out) | exact HB.out)))); have n1_ := Aside0.mk (blk_below (g := gb80106) (o := .cells #[.int .i64 t80103, .int .i64 t80104, .int .i64 t80105] 23 (0, 0)) (by (with_reducible repeat (first | refine blk_drewN ?_ _ | refine blk_drew ?_ | refine blk_alloc ?_ _)); refine blk_put (cs := #[.int .i64 t80103, .int .i64 t80104, .int .i64 0]) ?_ 2 _ rfl; (with_reducible repeat (first | refine blk_drewN ?_ _ | refine blk_drew ?_ | refine blk_alloc ?_ _)); refine blk_put (cs := #[.int .i64 t80103, .int .i64 0, .int .i64 0]) ?_ 1 _ rfl; (with_reducible repeat (first | refine blk_drewN ?_ _ | refine blk_drew ?_ | refine blk_alloc ?_ _)); refine blk_put (cs := #[.int .i64 0, .int .i64 0, .int .i64 0]) ?_ 0 _ rfl; (with_reducible repeat (first | refine blk_drewN ?_ _ | refine blk_drew ?_ | refine blk_alloc ?_ _)); exact BK80106.out) hb); have n2_ := Aside0.mk (below_step (by repeat (first | (with_reducible first | exact HB.out | apply below_alloc | apply pw_below_drewN | apply below_drew1 | refine below_set ?_ GE80106.out) | exact HB.out)) hb); clear BK80106; clear HB; have HO80109 := n0_; have BK80106 := n1_; have HB := n2_; clear n0_ n1_ n2_; (try clear hb); (try clear hb2); (try clear hk); (try clear hi); (try clear ho0)) | (go_at_call 13; (with_reducible refine (larderlaw03_at.calls k t80102 t80111 t80112 t80113 _ ?side1 A7.out).mono ?_); (case side1 => refine GlobOk.below HG.out ?_; repeat (first | (with_reducible first | exact HB.out | apply below_alloc | apply pw_below_drewN | apply below_drew1 | refine below_set ?_ GE80106.out) | exact HB.out)); rintro e w14 ⟨rfl, hb⟩; have n0_ := Aside0.mk (Kd.R_below (by (with_reducible repeat (first | apply Kd.R_alloc | apply Kd.R_drewN | apply Kd.R_drew)); exact HO80109.out) hb); have n1_ := Aside0.mk (blk_below (g := gb80106) (o := .cells #[.int .i64 t80103, .int .i64 t80104, .int .i64 t80105] 23 (0, 0)) (by (with_reducible repeat (first | refine blk_drewN ?_ _ | refine blk_drew ?_ | refine blk_alloc ?_ _)); exact BK80106.out) hb); have n2_ := Aside0.mk (below_step (by repeat (first | (with_reducible first | exact HB.out | apply below_alloc | apply pw_below_drewN | apply below_drew1 | refine below_set ?_ GE80106.out) | exact HB.out)) hb); clear HO80109; clear BK80106; clear HB; have HO80109 := n0_; have BK80106 := n1_; have HB := n2_; clear n0_ n1_ n2_; (try clear hb); (try clear hb2); (try clear hk); (try clear hi)) | (go_at_call 29; (with_reducible refine (larderlaw03_forms.calls k t80111 t80112 t80113 t80114 t80117 _ ?side1 A8.out).mono ?_); (case side1 => refine GlobOk.below HG.out ?_; repeat (first | (with_reducible first | exact HB.out | apply below_alloc | apply pw_below_drewN | apply below_drew1 | refine below_set ?_ GE80106.out) | exact HB.out)); rintro e w15 ⟨v80115, rfl, ho0, hb⟩; have n0_ := Aside0.mk (Kd.R_elder' (by (with_reducible repeat (first | apply Kd.R_alloc | apply Kd.R_drewN | apply Kd.R_drew)); exact HO80109.out) (Kd.R_base ho0) hb); have n1_ := Aside0.mk (Kd.R_lower (Kd.R_new' ho0 (Kd.R_lt (by (with_reducible repeat (first | apply Kd.R_alloc | apply Kd.R_drewN | apply Kd.R_drew)); exact HO80109.out))) (below_size (by repeat (first | (with_reducible first | exact HB.out | apply below_alloc | apply pw_below_drewN | apply below_drew1 | refine below_set ?_ GE80106.out) | exact HB.out)))); have n2_ := Aside0.mk (blk_below (g := gb80106) (o := .cells #[.int .i64 t80103, .int .i64 t80104, .int .i64 t80105] 23 (0, 0)) (by (with_reducible repeat (first | refine blk_drewN ?_ _ | refine blk_drew ?_ | refine blk_alloc ?_ _)); exact BK80106.out) hb); have n3_ := Aside0.mk (below_step (by repeat (first | (with_reducible first | exact HB.out | apply below_alloc | apply pw_below_drewN | apply below_drew1 | refine below_set ?_ GE80106.out) | exact HB.out)) hb); clear HO80109; clear BK80106; clear HB; have HO80109 := n0_; have HO80116 := n1_; have BK80106 := n2_; have HB := n3_; clear n0_ n1_ n2_ n3_; (try clear hb); (try clear hb2); (try clear hk); (try clear hi); (try clear ho0))); go_upto_region 6 with (first | (go_at_call 14; (with_reducible refine (larderlaw03_within.calls a0 2 3652424 t80101 _ A3.out).mono ?_); rintro e w' ⟨rfl, ⟨nd, rfl⟩⟩; (try first | exact ⟨rfl, _, World.drewN_drewN _ _ _⟩ | exact ⟨rfl, _, Eq.trans (World.drewN_drewN _ _ _) (congrArg (World.drewN _) (Nat.add_assoc _ _ _))⟩)) | (go_at_call 14; (with_reducible refine (larderlaw03_within.calls a1 2 3652424 t80102 _ A4.out).mono ?_); rintro e w' ⟨rfl, ⟨nd, rfl⟩⟩; (try first | exact ⟨rfl, _, World.drewN_drewN _ _ _⟩ | exact ⟨rfl, _, Eq.trans (World.drewN_drewN _ _ _) (congrArg (World.drewN _) (Nat.add_assoc _ _ _))⟩)) | (go_at_call 13; (with_reducible refine (larderlaw03_at.calls k t80101 t80103 t80104 t80105 _ ?side1 A5.out).mono ?_); (case side1 => refine GlobOk.below HG.out ?_; repeat (first | (with_reducible first | exact HB.out | apply below_alloc | apply pw_below_drewN | apply below_drew1) | exact HB.out)); rintro e w10 ⟨rfl, hb⟩; have n0_ := Aside0.mk (below_step (by repeat (first | (with_reducible first | exact HB.out | apply below_alloc | apply pw_below_drewN | apply below_drew1) | exact HB.out)) hb); clear HB; have HB := n0_; clear n0_; (try clear hb); (try clear hb2); (try clear hk); (try clear hi)) | ((with_reducible refine gate_dst (N := 7) rfl ?_); refine box_event ?hg (N := 7) ?hd (cs := #[.int .i64 0, .int .i64 0, .int .i64 0]) (t := 23) ?hr ?_; (case hd => rfl); (case hg => rfl); (case hr => first | (go_simp; done) | (go_simp; rfl)); intro gb80106 hg w11 hbox hb; have n0_ := Aside0.mk (below_step (by repeat (first | (with_reducible first | exact HB.out | apply below_alloc | apply pw_below_drewN | apply below_drew1) | exact HB.out)) hb); have n1_ := Aside0.mk (hbox); have n2_ := Aside0.mk ((by rw [hg]; exact (below_size (by repeat (first | (with_reducible first | exact HB.out | apply below_alloc | apply pw_below_drewN | apply below_drew1) | exact HB.out))) : w.heap.size ≤ gb80106)); have n3_ := Aside0.mk ((by rw [hg]; exact (below_size (by repeat (first | (with_reducible first | exact HB.out | apply below_alloc | apply pw_below_drewN | apply below_drew1) | exact HB.out))) : w.heap.size ≤ gb80106)); clear HB; have HB := n0_; have BK80106 := n1_; have GW80106 := n2_; have GE80106 := n3_; clear n0_ n1_ n2_ n3_; clear hb hbox hg; have hcz12_0 : w11.cell? ⟨gb80106, 0, none⟩ = some (.int .i64 0) := (blk_cell BK80106.out 0).trans rfl; have hcz12_1 : w11.cell? ⟨gb80106, 1, none⟩ = some (.int .i64 0) := (blk_cell BK80106.out 1).trans rfl; have hcz12_2 : w11.cell? ⟨gb80106, 2, none⟩ = some (.int .i64 0) := (blk_cell BK80106.out 2).trans rfl; have hfz12_0 := blk_frozen BK80106.out 0; have hfz12_1 := blk_frozen BK80106.out 1; have hfz12_2 := blk_frozen BK80106.out 2) | (go_at_call 29; (with_reducible refine (larderlaw03_forms.calls k t80103 t80104 t80105 t80107 t80110 _ ?side1 A6.out).mono ?_); (case side1 => refine GlobOk.below HG.out ?_; repeat (first | (with_reducible first | exact HB.out | apply below_alloc | apply pw_below_drewN | apply below_drew1 | refine below_set ?_ GE80106.out) | exact HB.out)); rintro e w13 ⟨v80108, rfl, ho0, hb⟩; have n0_ := Aside0.mk (Kd.R_lower ho0 (below_size (by repeat (first | (with_reducible first | exact HB.out | apply below_alloc | apply pw_below_drewN | apply below_drew1 | refine below_set ?_ GE80106.out) | exact HB.out)))); have n1_ := Aside0.mk (blk_below (g := gb80106) (o := .cells #[.int .i64 t80103, .int .i64 t80104, .int .i64 t80105] 23 (0, 0)) (by (with_reducible repeat (first | refine blk_drewN ?_ _ | refine blk_drew ?_ | refine blk_alloc ?_ _)); refine blk_put (cs := #[.int .i64 t80103, .int .i64 t80104, .int .i64 0]) ?_ 2 _ rfl; (with_reducible repeat (first | refine blk_drewN ?_ _ | refine blk_drew ?_ | refine blk_alloc ?_ _)); refine blk_put (cs := #[.int .i64 t80103, .int .i64 0, .int .i64 0]) ?_ 1 _ rfl; (with_reducible repeat (first | refine blk_drewN ?_ _ | refine blk_drew ?_ | refine blk_alloc ?_ _)); refine blk_put (cs := #[.int .i64 0, .int .i64 0, .int .i64 0]) ?_ 0 _ rfl; (with_reducible repeat (first | refine blk_drewN ?_ _ | refine blk_drew ?_ | refine blk_alloc ?_ _)); exact BK80106.out) hb); have n2_ := Aside0.mk (below_step (by repeat (first | (with_reducible first | exact HB.out | apply below_alloc | apply pw_below_drewN | apply below_drew1 | refine below_set ?_ GE80106.out) | exact HB.out)) hb); clear BK80106; clear HB; have HO80109 := n0_; have BK80106 := n1_; have HB := n2_; clear n0_ n1_ n2_; (try clear hb); (try clear hb2); (try clear hk); (try clear hi); (try clear ho0)) | (go_at_call 13; (with_reducible refine (larderlaw03_at.calls k t80102 t80111 t80112 t80113 _ ?side1 A7.out).mono ?_); (case side1 => refine GlobOk.below HG.out ?_; repeat (first | (with_reducible first | exact HB.out | apply below_alloc | apply pw_below_drewN | apply below_drew1 | refine below_set ?_ GE80106.out) | exact HB.out)); rintro e w14 ⟨rfl, hb⟩; have n0_ := Aside0.mk (Kd.R_below (by (with_reducible repeat (first | apply Kd.R_alloc | apply Kd.R_drewN | apply Kd.R_drew)); exact HO80109.out) hb); have n1_ := Aside0.mk (blk_below (g := gb80106) (o := .cells #[.int .i64 t80103, .int .i64 t80104, .int .i64 t80105] 23 (0, 0)) (by (with_reducible repeat (first | refine blk_drewN ?_ _ | refine blk_drew ?_ | refine blk_alloc ?_ _)); exact BK80106.out) hb); have n2_ := Aside0.mk (below_step (by repeat (first | (with_reducible first | exact HB.out | apply below_alloc | apply pw_below_drewN | apply below_drew1 | refine below_set ?_ GE80106.out) | exact HB.out)) hb); clear HO80109; clear BK80106; clear HB; have HO80109 := n0_; have BK80106 := n1_; have HB := n2_; clear n0_ n1_ n2_; (try clear hb); (try clear hb2); (try clear hk); (try clear hi)) | (go_at_call 29; (with_reducible refine (larderlaw03_forms.calls k t80111 t80112 t80113 t80114 t80117 _ ?side1 A8.out).mono ?_); (case side1 => refine GlobOk.below HG.out ?_; repeat (first | (with_reducible first | exact HB.out | apply below_alloc | apply pw_below_drewN | apply below_drew1 | refine below_set ?_ GE80106.out) | exact HB.out)); rintro e w15 ⟨v80115, rfl, ho0, hb⟩; have n0_ := Aside0.mk (Kd.R_elder' (by (with_reducible repeat (first | apply Kd.R_alloc | apply Kd.R_drewN | apply Kd.R_drew)); exact HO80109.out) (Kd.R_base ho0) hb); have n1_ := Aside0.mk (Kd.R_lower (Kd.R_new' ho0 (Kd.R_lt (by (with_reducible repeat (first | apply Kd.R_alloc | apply Kd.R_drewN | apply Kd.R_drew)); exact HO80109.out))) (below_size (by repeat (first | (with_reducible first | exact HB.out | apply below_alloc | apply pw_below_drewN | apply below_drew1 | refine below_set ?_ GE80106.out) | exact HB.out)))); have n2_ := Aside0.mk (blk_below (g := gb80106) (o := .cells #[.int .i64 t80103, .int .i64 t80104, .int .i64 t80105] 23 (0, 0)) (by (with_reducible repeat (first | refine blk_drewN ?_ _ | refine blk_drew ?_ | refine blk_alloc ?_ _)); exact BK80106.out) hb); have n3_ := Aside0.mk (below_step (by repeat (first | (with_reducible first | exact HB.out | apply below_alloc | apply pw_below_drewN | apply below_drew1 | refine below_set ?_ GE80106.out) | exact HB.out)) hb); clear HO80109; clear BK80106; clear HB; have HO80109 := n0_; have HO80116 := n1_; have BK80106 := n2_; have HB := n3_; clear n0_ n1_ n2_ n3_; (try clear hb); (try clear hb2); (try clear hk); (try clear hi); (try clear ho0))))
  (try simp only [Act.put, List.setIfInBounds_toArray, List.set_cons_zero, List.set_cons_succ])
  go_cut [41] (fun v41 wc => ∃ (kq : Nat) (x41_8 : Bool), v41 = .bool x41_8 ∧ Aside0 (larderlaw03_CalRound.j0 kq t80101 t80102 t80107 t80114 x41_8 t80103 t80104 t80105 = some r) ∧ Aside0 (kq ≤ k) ∧ Aside0 (Kd.R Kd.string 9 wc w.heap.size (fun k_ => some k_ ≠ (v80115 : Value).ownBlock) v80108 t80107) ∧ Aside0 (Kd.R Kd.string 9 wc w.heap.size (fun k_ => some k_ ≠ (v80108 : Value).ownBlock) v80115 t80114) ∧ Aside0 (wc.heap[gb80106]? = some (.cells #[.int .i64 t80103, .int .i64 t80104, .int .i64 t80105] 23 (0, 0))) ∧ Aside0 (Below w.heap.size w wc))
  case first =>
    have H := HC9.out
    clear HC9
    by_cases c16 : t80110 = true
    · subst c16
      have H1 : (larderlaw03_CalRound.j0 k t80101 t80102 t80107 t80114 (!t80117) t80103 t80104 t80105) = some r := by rw [if_pos rfl] at H; exact H
      clear H
      have H := H1
      clear H1
      have H' := Aside0.mk H
      clear H
      go_wp2
      repeat (go_quiet (fail); try go_wp2)
      go_meet
      case rel => exact ⟨_, (!t80117), (by first | rfl | (simp; done) | (simp [*]; done)), H', ⟨by first | omega | exact Nat.le_refl _⟩, ⟨by (with_reducible repeat (first | apply Kd.R_alloc | apply Kd.R_drewN | apply Kd.R_drew)); exact Kd.R_mono HO80109.out (fun _ hk => hk.2)⟩, ⟨by (with_reducible repeat (first | apply Kd.R_alloc | apply Kd.R_drewN | apply Kd.R_drew)); exact Kd.R_mono HO80116.out (fun _ hk => hk.2)⟩, ⟨by (with_reducible repeat (first | refine blk_drewN ?_ _ | refine blk_drew ?_ | refine blk_alloc ?_ _)); exact BK80106.out⟩, ⟨by repeat (first | (with_reducible first | exact HB.out | apply below_alloc | apply pw_below_drewN | apply below_drew1 | refine below_set ?_ GE80106.out) | exact HB.out)⟩⟩
    · replace c16 := Bool.eq_false_iff.mpr c16
      subst c16
      have H1 : (larderlaw03_CalRound.j0 k t80101 t80102 t80107 t80114 true t80103 t80104 t80105) = some r := by rw [if_neg (show ¬ (false = true) by decide)] at H; exact H
      clear H
      have H := H1
      clear H1
      have H' := Aside0.mk H
      clear H
      go_wp2
      repeat (go_quiet (fail); try go_wp2)
      go_meet
      case rel => exact ⟨_, (true), (by first | rfl | (simp; done) | (simp [*]; done)), H', ⟨by first | omega | exact Nat.le_refl _⟩, ⟨by (with_reducible repeat (first | apply Kd.R_alloc | apply Kd.R_drewN | apply Kd.R_drew)); exact Kd.R_mono HO80109.out (fun _ hk => hk.2)⟩, ⟨by (with_reducible repeat (first | apply Kd.R_alloc | apply Kd.R_drewN | apply Kd.R_drew)); exact Kd.R_mono HO80116.out (fun _ hk => hk.2)⟩, ⟨by (with_reducible repeat (first | refine blk_drewN ?_ _ | refine blk_drew ?_ | refine blk_alloc ?_ _)); exact BK80106.out⟩, ⟨by repeat (first | (with_reducible first | exact HB.out | apply below_alloc | apply pw_below_drewN | apply below_drew1 | refine below_set ?_ GE80106.out) | exact HB.out)⟩⟩
  case rest =>
    clear HC9
    try clear c1
    try clear p2
    try clear c8
    try clear c16
    try clear hcz12_0
    try clear hcz12_1
    try clear hcz12_2
    try clear hfz12_0
    try clear hfz12_1
    try clear hfz12_2
    obtain ⟨kq, x41_8, rfl, HA, HJ8, HO_8, HO_10, BK80106, HB⟩ := hcut
    cases kq with
    | zero => exact absurd HA.out (by simp [larderlaw03_CalRound.j0])
    | succ kj8 =>
      have H := HA.out
      clear HA
      simp only [larderlaw03_CalRound.j0] at H
      by_cases c17 : x41_8 = true
      · subst c17
        have H1 : (some false) = some r := by rw [if_pos rfl] at H; exact H
        clear H
        have H := H1
        clear H1
        obtain rfl := Option.some.inj H
        go_wp2
        repeat (go_quiet (fail); try go_wp2)
        go_ret
        exact ⟨by first | rfl | (simp [errW_none, errW_some] <;> rfl) | (simp [*, errW_none, errW_some] <;> rfl), by repeat (first | (with_reducible first | exact HB.out | apply below_alloc | apply pw_below_drewN | apply below_drew1 | refine below_set ?_ GE80106.out) | exact HB.out)⟩
      · replace c17 := Bool.eq_false_iff.mpr c17
        subst c17
        have H1 : (larderlaw03_CalRound.l0 kj8 t80101 t80102 t80107 t80114 0 t80103 t80104 t80105) = some r := by rw [if_neg (show ¬ (false = true) by decide)] at H; exact H
        clear H
        have H := H1
        clear H1
        have H' := Aside0.mk H
        clear H
        go_wp2
        repeat (go_quiet (fail); try go_wp2)
        go_loopg [12] kj8 (fun kq v12 w' => ∃ (x12_2 : Int), v12 = .int .i64 x12_2 ∧ Aside0 (larderlaw03_CalRound.l0 kq t80101 t80102 t80107 t80114 x12_2 t80103 t80104 t80105 = some r) ∧ Aside0 (kq ≤ kj8) ∧ Aside0 (Kd.R Kd.string 9 w' w.heap.size (fun k_ => some k_ ≠ (v80115 : Value).ownBlock) v80108 t80107) ∧ Aside0 (Kd.R Kd.string 9 w' w.heap.size (fun k_ => some k_ ≠ (v80108 : Value).ownBlock) v80115 t80114) ∧ Aside0 (w'.heap[gb80106]? = some (.cells #[.int .i64 t80103, .int .i64 t80104, .int .i64 t80105] 23 (0, 0))) ∧ Aside0 (Below w.heap.size w w'))
        case atStart => exact ⟨(0), (by first | rfl | (simp; done) | (simp [*]; done)), H', ⟨Nat.le_refl _⟩, ⟨by (with_reducible repeat (first | apply Kd.R_alloc | apply Kd.R_drewN | apply Kd.R_drew)); exact HO_8.out⟩, ⟨by (with_reducible repeat (first | apply Kd.R_alloc | apply Kd.R_drewN | apply Kd.R_drew)); exact HO_10.out⟩, ⟨by (with_reducible repeat (first | refine blk_drewN ?_ _ | refine blk_drew ?_ | refine blk_alloc ?_ _)); exact BK80106.out⟩, ⟨by repeat (first | (with_reducible first | exact HB.out | apply below_alloc | apply pw_below_drewN | apply below_drew1 | refine below_set ?_ GE80106.out) | exact HB.out)⟩⟩
        case round =>
          clear H'
          try clear c1
          try clear p2
          try clear c8
          try clear c16
          try clear c17
          try clear hcz12_0
          try clear hcz12_1
          try clear hcz12_2
          try clear hfz12_0
          try clear hfz12_1
          try clear hfz12_2
          try clear p2
          obtain ⟨x12_2, rfl, HA, HK2, HO_8, HO_10, BK80106, HB⟩ := hrel
          cases gk with
          | zero => exact absurd HA.out (by simp [larderlaw03_CalRound.l0])
          | succ k2 =>
            have H := HA.out
            clear HA
            simp only [larderlaw03_CalRound.l0] at H
            by_cases c18 : x12_2 < 6
            · rw [if_pos c18] at H
              have c18b0 : decide (x12_2 < 6) = true := decide_eq_true c18
              clear c18
              by_cases c19 : 0 ≤ x12_2
              · rw [if_pos c19] at H
                have c19b0 : decide (0 ≤ x12_2) = true := decide_eq_true c19
                clear c19
                by_cases c20 : x12_2 < (t80107.length : Int)
                · rw [if_pos c20] at H
                  have c20b0 : decide (x12_2 < (t80107.length : Int)) = true := decide_eq_true c20
                  clear c20
                  replace H := Option.bind_eq_some_iff.mp H
                  obtain ⟨⟨t80119, t80120, t80121, t80122, t80123⟩, A210, H⟩ := H
                  replace H : (if (!(t80119 == t80103) || (!(t80120 == t80104) || (!(t80121 == t80105)))) = true then (some false) else (if t80122 = 0 then (if t80123 = 0 then (larderlaw03_CalRound.l0 k2 t80101 t80102 t80107 t80114 (wrap64 (x12_2 + 1)) t80103 t80104 t80105) else (some false)) else (some false))) = some r := H
                  have A21 := Aside0.mk A210
                  clear A210
                  by_cases c22 : (!(t80119 == t80103) || (!(t80120 == t80104) || (!(t80121 == t80105)))) = true
                  · rw [if_pos c22] at H
                    have c22b0 : (!(t80119 == t80103) || (!(t80120 == t80104) || (!(t80121 == t80105)))) = true := c22
                    clear c22
                    obtain rfl := Option.some.inj H
                    obtain ⟨Ao23, co23, eo23⟩ := Kd.R_slice HO_8.out
                    subst eo23
                    have p80118 : 0 ≤ (x12_2 : Int) := of_decide_eq_true (by first | (with_reducible assumption) | assumption)
                    have q80118 : x12_2 < (t80107.length : Int) := of_decide_eq_true (by first | (with_reducible assumption) | assumption)
                    obtain ⟨ad80118, e80118, hx80118_0⟩ := Kd.at_string (Kd.R_reads' HO_8.out).2.2 x12_2 p80118 q80118
                    cases e80118
                    replace p80118 := eq_true p80118
                    replace q80118 := eq_true q80118
                    go_wp2_with (first | (go_at_call 21; (with_reducible refine (cal_ParseDate.calls (rdOf ByteArray.empty t80107 x12_2) t80119 t80120 t80121 t80122 t80123 _ ?side1 A21.out).mono ?_); (case side1 => refine GlobOk.below HG.out ?_; repeat (first | (with_reducible first | exact HB.out | apply below_alloc | apply pw_below_drewN | apply below_drew1 | refine below_set ?_ GE80106.out) | exact HB.out)); rintro e w24 ⟨rfl, hb⟩; have n0_ := Aside0.mk (Kd.R_below (by (with_reducible repeat (first | apply Kd.R_alloc | apply Kd.R_drewN | apply Kd.R_drew)); exact HO_8.out) hb); have n1_ := Aside0.mk (Kd.R_below (by (with_reducible repeat (first | apply Kd.R_alloc | apply Kd.R_drewN | apply Kd.R_drew)); exact HO_10.out) hb); have n2_ := Aside0.mk (blk_below (g := gb80106) (o := .cells #[.int .i64 t80103, .int .i64 t80104, .int .i64 t80105] 23 (0, 0)) (by (with_reducible repeat (first | refine blk_drewN ?_ _ | refine blk_drew ?_ | refine blk_alloc ?_ _)); exact BK80106.out) hb); have n3_ := Aside0.mk (below_step (by repeat (first | (with_reducible first | exact HB.out | apply below_alloc | apply pw_below_drewN | apply below_drew1 | refine below_set ?_ GE80106.out) | exact HB.out)) hb); clear HO_8; clear HO_10; clear BK80106; clear HB; have HO_8 := n0_; have HO_10 := n1_; have BK80106 := n2_; have HB := n3_; clear n0_ n1_ n2_ n3_; (try clear hb); (try clear hb2); (try clear hk); (try clear hi)) | ((with_reducible refine gate_dst (N := 13) rfl ?_); refine box_event ?hg (N := 13) ?hd (cs := #[.int .i64 0, .int .i64 0, .int .i64 0]) (t := 23) ?hr ?_; (case hd => rfl); (case hg => rfl); (case hr => first | (go_simp; done) | (go_simp; rfl)); intro gb80124 hg w25 hbox hb; have n0_ := Aside0.mk (Kd.R_below (by (with_reducible repeat (first | apply Kd.R_alloc | apply Kd.R_drewN | apply Kd.R_drew)); exact HO_8.out) hb); have n1_ := Aside0.mk (Kd.R_below (by (with_reducible repeat (first | apply Kd.R_alloc | apply Kd.R_drewN | apply Kd.R_drew)); exact HO_10.out) hb); have n2_ := Aside0.mk (blk_below (g := gb80106) (o := .cells #[.int .i64 t80103, .int .i64 t80104, .int .i64 t80105] 23 (0, 0)) (by (with_reducible repeat (first | refine blk_drewN ?_ _ | refine blk_drew ?_ | refine blk_alloc ?_ _)); exact BK80106.out) hb); have n3_ := Aside0.mk (below_step (by repeat (first | (with_reducible first | exact HB.out | apply below_alloc | apply pw_below_drewN | apply below_drew1 | refine below_set ?_ GE80106.out) | exact HB.out)) hb); have n4_ := Aside0.mk (hbox); have n5_ := Aside0.mk ((by rw [hg]; exact (below_size (by repeat (first | (with_reducible first | exact HB.out | apply below_alloc | apply pw_below_drewN | apply below_drew1 | refine below_set ?_ GE80106.out) | exact HB.out))) : w.heap.size ≤ gb80124)); have n6_ := Aside0.mk ((by rw [hg]; exact (below_size (by repeat (first | (with_reducible first | exact HB.out | apply below_alloc | apply pw_below_drewN | apply below_drew1 | refine below_set ?_ GE80106.out) | exact HB.out))) : w.heap.size ≤ gb80124)); have n7_ := Aside0.mk ((by rw [hg]; exact Nat.ne_of_lt (blk_lt (g := gb80106) (o := .cells #[.int .i64 t80103, .int .i64 t80104, .int .i64 t80105] 23 (0, 0)) (by (with_reducible repeat (first | refine blk_drewN ?_ _ | refine blk_drew ?_ | refine blk_alloc ?_ _)); exact BK80106.out)) : gb80106 ≠ gb80124)); have n8_ := Aside0.mk ((by rw [hg]; exact Nat.ne_of_gt (blk_lt (g := gb80106) (o := .cells #[.int .i64 t80103, .int .i64 t80104, .int .i64 t80105] 23 (0, 0)) (by (with_reducible repeat (first | refine blk_drewN ?_ _ | refine blk_drew ?_ | refine blk_alloc ?_ _)); exact BK80106.out)) : gb80124 ≠ gb80106)); clear HO_8; clear HO_10; clear BK80106; clear HB; have HO_8 := n0_; have HO_10 := n1_; have BK80106 := n2_; have HB := n3_; have BK80124 := n4_; have GW80124 := n5_; have GE80124 := n6_; have NB80106_80124 := n7_; have NB80124_80106 := n8_; clear n0_ n1_ n2_ n3_ n4_ n5_ n6_ n7_ n8_; clear hb hbox hg; have hnb26 := NB80124_80106.out; have hnc26 := NB80106_80124.out; have hcz27_0 : w25.cell? ⟨gb80124, 0, none⟩ = some (.int .i64 0) := (blk_cell BK80124.out 0).trans rfl; have hcz27_1 : w25.cell? ⟨gb80124, 1, none⟩ = some (.int .i64 0) := (blk_cell BK80124.out 1).trans rfl; have hcz27_2 : w25.cell? ⟨gb80124, 2, none⟩ = some (.int .i64 0) := (blk_cell BK80124.out 2).trans rfl; have hfz27_0 := blk_frozen BK80124.out 0; have hfz27_1 := blk_frozen BK80124.out 1; have hfz27_2 := blk_frozen BK80124.out 2; have hcz28_0 : w25.cell? ⟨gb80106, 0, none⟩ = some (.int .i64 t80103) := (blk_cell BK80106.out 0).trans rfl; have hcz28_1 : w25.cell? ⟨gb80106, 1, none⟩ = some (.int .i64 t80104) := (blk_cell BK80106.out 1).trans rfl; have hcz28_2 : w25.cell? ⟨gb80106, 2, none⟩ = some (.int .i64 t80105) := (blk_cell BK80106.out 2).trans rfl; have hfz28_0 := blk_frozen BK80106.out 0; have hfz28_1 := blk_frozen BK80106.out 1; have hfz28_2 := blk_frozen BK80106.out 2))
                    repeat (go_quiet (first | (go_at_call 21; (with_reducible refine (cal_ParseDate.calls (rdOf ByteArray.empty t80107 x12_2) t80119 t80120 t80121 t80122 t80123 _ ?side1 A21.out).mono ?_); (case side1 => refine GlobOk.below HG.out ?_; repeat (first | (with_reducible first | exact HB.out | apply below_alloc | apply pw_below_drewN | apply below_drew1 | refine below_set ?_ GE80106.out) | exact HB.out)); rintro e w24 ⟨rfl, hb⟩; have n0_ := Aside0.mk (Kd.R_below (by (with_reducible repeat (first | apply Kd.R_alloc | apply Kd.R_drewN | apply Kd.R_drew)); exact HO_8.out) hb); have n1_ := Aside0.mk (Kd.R_below (by (with_reducible repeat (first | apply Kd.R_alloc | apply Kd.R_drewN | apply Kd.R_drew)); exact HO_10.out) hb); have n2_ := Aside0.mk (blk_below (g := gb80106) (o := .cells #[.int .i64 t80103, .int .i64 t80104, .int .i64 t80105] 23 (0, 0)) (by (with_reducible repeat (first | refine blk_drewN ?_ _ | refine blk_drew ?_ | refine blk_alloc ?_ _)); exact BK80106.out) hb); have n3_ := Aside0.mk (below_step (by repeat (first | (with_reducible first | exact HB.out | apply below_alloc | apply pw_below_drewN | apply below_drew1 | refine below_set ?_ GE80106.out) | exact HB.out)) hb); clear HO_8; clear HO_10; clear BK80106; clear HB; have HO_8 := n0_; have HO_10 := n1_; have BK80106 := n2_; have HB := n3_; clear n0_ n1_ n2_ n3_; (try clear hb); (try clear hb2); (try clear hk); (try clear hi)) | ((with_reducible refine gate_dst (N := 13) rfl ?_); refine box_event ?hg (N := 13) ?hd (cs := #[.int .i64 0, .int .i64 0, .int .i64 0]) (t := 23) ?hr ?_; (case hd => rfl); (case hg => rfl); (case hr => first | (go_simp; done) | (go_simp; rfl)); intro gb80124 hg w25 hbox hb; have n0_ := Aside0.mk (Kd.R_below (by (with_reducible repeat (first | apply Kd.R_alloc | apply Kd.R_drewN | apply Kd.R_drew)); exact HO_8.out) hb); have n1_ := Aside0.mk (Kd.R_below (by (with_reducible repeat (first | apply Kd.R_alloc | apply Kd.R_drewN | apply Kd.R_drew)); exact HO_10.out) hb); have n2_ := Aside0.mk (blk_below (g := gb80106) (o := .cells #[.int .i64 t80103, .int .i64 t80104, .int .i64 t80105] 23 (0, 0)) (by (with_reducible repeat (first | refine blk_drewN ?_ _ | refine blk_drew ?_ | refine blk_alloc ?_ _)); exact BK80106.out) hb); have n3_ := Aside0.mk (below_step (by repeat (first | (with_reducible first | exact HB.out | apply below_alloc | apply pw_below_drewN | apply below_drew1 | refine below_set ?_ GE80106.out) | exact HB.out)) hb); have n4_ := Aside0.mk (hbox); have n5_ := Aside0.mk ((by rw [hg]; exact (below_size (by repeat (first | (with_reducible first | exact HB.out | apply below_alloc | apply pw_below_drewN | apply below_drew1 | refine below_set ?_ GE80106.out) | exact HB.out))) : w.heap.size ≤ gb80124)); have n6_ := Aside0.mk ((by rw [hg]; exact (below_size (by repeat (first | (with_reducible first | exact HB.out | apply below_alloc | apply pw_below_drewN | apply below_drew1 | refine below_set ?_ GE80106.out) | exact HB.out))) : w.heap.size ≤ gb80124)); have n7_ := Aside0.mk ((by rw [hg]; exact Nat.ne_of_lt (blk_lt (g := gb80106) (o := .cells #[.int .i64 t80103, .int .i64 t80104, .int .i64 t80105] 23 (0, 0)) (by (with_reducible repeat (first | refine blk_drewN ?_ _ | refine blk_drew ?_ | refine blk_alloc ?_ _)); exact BK80106.out)) : gb80106 ≠ gb80124)); have n8_ := Aside0.mk ((by rw [hg]; exact Nat.ne_of_gt (blk_lt (g := gb80106) (o := .cells #[.int .i64 t80103, .int .i64 t80104, .int .i64 t80105] 23 (0, 0)) (by (with_reducible repeat (first | refine blk_drewN ?_ _ | refine blk_drew ?_ | refine blk_alloc ?_ _)); exact BK80106.out)) : gb80124 ≠ gb80106)); clear HO_8; clear HO_10; clear BK80106; clear HB; have HO_8 := n0_; have HO_10 := n1_; have BK80106 := n2_; have HB := n3_; have BK80124 := n4_; have GW80124 := n5_; have GE80124 := n6_; have NB80106_80124 := n7_; have NB80124_80106 := n8_; clear n0_ n1_ n2_ n3_ n4_ n5_ n6_ n7_ n8_; clear hb hbox hg; have hnb26 := NB80124_80106.out; have hnc26 := NB80106_80124.out; have hcz27_0 : w25.cell? ⟨gb80124, 0, none⟩ = some (.int .i64 0) := (blk_cell BK80124.out 0).trans rfl; have hcz27_1 : w25.cell? ⟨gb80124, 1, none⟩ = some (.int .i64 0) := (blk_cell BK80124.out 1).trans rfl; have hcz27_2 : w25.cell? ⟨gb80124, 2, none⟩ = some (.int .i64 0) := (blk_cell BK80124.out 2).trans rfl; have hfz27_0 := blk_frozen BK80124.out 0; have hfz27_1 := blk_frozen BK80124.out 1; have hfz27_2 := blk_frozen BK80124.out 2; have hcz28_0 : w25.cell? ⟨gb80106, 0, none⟩ = some (.int .i64 t80103) := (blk_cell BK80106.out 0).trans rfl; have hcz28_1 : w25.cell? ⟨gb80106, 1, none⟩ = some (.int .i64 t80104) := (blk_cell BK80106.out 1).trans rfl; have hcz28_2 : w25.cell? ⟨gb80106, 2, none⟩ = some (.int .i64 t80105) := (blk_cell BK80106.out 2).trans rfl; have hfz28_0 := blk_frozen BK80106.out 0; have hfz28_1 := blk_frozen BK80106.out 1; have hfz28_2 := blk_frozen BK80106.out 2)); try go_wp2_with (first | (go_at_call 21; (with_reducible refine (cal_ParseDate.calls (rdOf ByteArray.empty t80107 x12_2) t80119 t80120 t80121 t80122 t80123 _ ?side1 A21.out).mono ?_); (case side1 => refine GlobOk.below HG.out ?_; repeat (first | (with_reducible first | exact HB.out | apply below_alloc | apply pw_below_drewN | apply below_drew1 | refine below_set ?_ GE80106.out) | exact HB.out)); rintro e w24 ⟨rfl, hb⟩; have n0_ := Aside0.mk (Kd.R_below (by (with_reducible repeat (first | apply Kd.R_alloc | apply Kd.R_drewN | apply Kd.R_drew)); exact HO_8.out) hb); have n1_ := Aside0.mk (Kd.R_below (by (with_reducible repeat (first | apply Kd.R_alloc | apply Kd.R_drewN | apply Kd.R_drew)); exact HO_10.out) hb); have n2_ := Aside0.mk (blk_below (g := gb80106) (o := .cells #[.int .i64 t80103, .int .i64 t80104, .int .i64 t80105] 23 (0, 0)) (by (with_reducible repeat (first | refine blk_drewN ?_ _ | refine blk_drew ?_ | refine blk_alloc ?_ _)); exact BK80106.out) hb); have n3_ := Aside0.mk (below_step (by repeat (first | (with_reducible first | exact HB.out | apply below_alloc | apply pw_below_drewN | apply below_drew1 | refine below_set ?_ GE80106.out) | exact HB.out)) hb); clear HO_8; clear HO_10; clear BK80106; clear HB; have HO_8 := n0_; have HO_10 := n1_; have BK80106 := n2_; have HB := n3_; clear n0_ n1_ n2_ n3_; (try clear hb); (try clear hb2); (try clear hk); (try clear hi)) | ((with_reducible refine gate_dst (N := 13) rfl ?_); refine box_event ?hg (N := 13) ?hd (cs := #[.int .i64 0, .int .i64 0, .int .i64 0]) (t := 23) ?hr ?_; (case hd => rfl); (case hg => rfl); (case hr => first | (go_simp; done) | (go_simp; rfl)); intro gb80124 hg w25 hbox hb; have n0_ := Aside0.mk (Kd.R_below (by (with_reducible repeat (first | apply Kd.R_alloc | apply Kd.R_drewN | apply Kd.R_drew)); exact HO_8.out) hb); have n1_ := Aside0.mk (Kd.R_below (by (with_reducible repeat (first | apply Kd.R_alloc | apply Kd.R_drewN | apply Kd.R_drew)); exact HO_10.out) hb); have n2_ := Aside0.mk (blk_below (g := gb80106) (o := .cells #[.int .i64 t80103, .int .i64 t80104, .int .i64 t80105] 23 (0, 0)) (by (with_reducible repeat (first | refine blk_drewN ?_ _ | refine blk_drew ?_ | refine blk_alloc ?_ _)); exact BK80106.out) hb); have n3_ := Aside0.mk (below_step (by repeat (first | (with_reducible first | exact HB.out | apply below_alloc | apply pw_below_drewN | apply below_drew1 | refine below_set ?_ GE80106.out) | exact HB.out)) hb); have n4_ := Aside0.mk (hbox); have n5_ := Aside0.mk ((by rw [hg]; exact (below_size (by repeat (first | (with_reducible first | exact HB.out | apply below_alloc | apply pw_below_drewN | apply below_drew1 | refine below_set ?_ GE80106.out) | exact HB.out))) : w.heap.size ≤ gb80124)); have n6_ := Aside0.mk ((by rw [hg]; exact (below_size (by repeat (first | (with_reducible first | exact HB.out | apply below_alloc | apply pw_below_drewN | apply below_drew1 | refine below_set ?_ GE80106.out) | exact HB.out))) : w.heap.size ≤ gb80124)); have n7_ := Aside0.mk ((by rw [hg]; exact Nat.ne_of_lt (blk_lt (g := gb80106) (o := .cells #[.int .i64 t80103, .int .i64 t80104, .int .i64 t80105] 23 (0, 0)) (by (with_reducible repeat (first | refine blk_drewN ?_ _ | refine blk_drew ?_ | refine blk_alloc ?_ _)); exact BK80106.out)) : gb80106 ≠ gb80124)); have n8_ := Aside0.mk ((by rw [hg]; exact Nat.ne_of_gt (blk_lt (g := gb80106) (o := .cells #[.int .i64 t80103, .int .i64 t80104, .int .i64 t80105] 23 (0, 0)) (by (with_reducible repeat (first | refine blk_drewN ?_ _ | refine blk_drew ?_ | refine blk_alloc ?_ _)); exact BK80106.out)) : gb80124 ≠ gb80106)); clear HO_8; clear HO_10; clear BK80106; clear HB; have HO_8 := n0_; have HO_10 := n1_; have BK80106 := n2_; have HB := n3_; have BK80124 := n4_; have GW80124 := n5_; have GE80124 := n6_; have NB80106_80124 := n7_; have NB80124_80106 := n8_; clear n0_ n1_ n2_ n3_ n4_ n5_ n6_ n7_ n8_; clear hb hbox hg; have hnb26 := NB80124_80106.out; have hnc26 := NB80106_80124.out; have hcz27_0 : w25.cell? ⟨gb80124, 0, none⟩ = some (.int .i64 0) := (blk_cell BK80124.out 0).trans rfl; have hcz27_1 : w25.cell? ⟨gb80124, 1, none⟩ = some (.int .i64 0) := (blk_cell BK80124.out 1).trans rfl; have hcz27_2 : w25.cell? ⟨gb80124, 2, none⟩ = some (.int .i64 0) := (blk_cell BK80124.out 2).trans rfl; have hfz27_0 := blk_frozen BK80124.out 0; have hfz27_1 := blk_frozen BK80124.out 1; have hfz27_2 := blk_frozen BK80124.out 2; have hcz28_0 : w25.cell? ⟨gb80106, 0, none⟩ = some (.int .i64 t80103) := (blk_cell BK80106.out 0).trans rfl; have hcz28_1 : w25.cell? ⟨gb80106, 1, none⟩ = some (.int .i64 t80104) := (blk_cell BK80106.out 1).trans rfl; have hcz28_2 : w25.cell? ⟨gb80106, 2, none⟩ = some (.int .i64 t80105) := (blk_cell BK80106.out 2).trans rfl; have hfz28_0 := blk_frozen BK80106.out 0; have hfz28_1 := blk_frozen BK80106.out 1; have hfz28_2 := blk_frozen BK80106.out 2)))
                    go_ret
                    exact ⟨by first | rfl | (simp [errW_none, errW_some] <;> rfl) | (simp [*, errW_none, errW_some] <;> rfl), by repeat (first | (with_reducible first | exact HB.out | apply below_alloc | apply pw_below_drewN | apply below_drew1 | refine below_set ?_ GE80106.out | refine below_set ?_ GE80124.out) | exact HB.out)⟩
                  · rw [if_neg c22] at H
                    have c22b0 : (!(t80119 == t80103) || (!(t80120 == t80104) || (!(t80121 == t80105)))) = false := by simpa using c22
                    clear c22
                    by_cases c29 : t80122 = 0
                    · rw [if_pos c29] at H
                      have c29b0 : (t80122 == 0) = true := beq_iff_eq.mpr c29
                      have c29b1 : (t80122 != 0) = false := bne_eq_false_iff_eq.mpr c29
                      clear c29
                      by_cases c30 : t80123 = 0
                      · rw [if_pos c30] at H
                        have c30b0 : (t80123 == 0) = true := beq_iff_eq.mpr c30
                        have c30b1 : (t80123 != 0) = false := bne_eq_false_iff_eq.mpr c30
                        clear c30
                        have H' := Aside0.mk H
                        clear H
                        obtain ⟨Ao31, co31, eo31⟩ := Kd.R_slice HO_8.out
                        subst eo31
                        have p80118 : 0 ≤ (x12_2 : Int) := of_decide_eq_true (by first | (with_reducible assumption) | assumption)
                        have q80118 : x12_2 < (t80107.length : Int) := of_decide_eq_true (by first | (with_reducible assumption) | assumption)
                        obtain ⟨ad80118, e80118, hx80118_0⟩ := Kd.at_string (Kd.R_reads' HO_8.out).2.2 x12_2 p80118 q80118
                        cases e80118
                        replace p80118 := eq_true p80118
                        replace q80118 := eq_true q80118
                        go_wp2_with (first | (go_at_call 21; (with_reducible refine (cal_ParseDate.calls (rdOf ByteArray.empty t80107 x12_2) t80119 t80120 t80121 t80122 t80123 _ ?side1 A21.out).mono ?_); (case side1 => refine GlobOk.below HG.out ?_; repeat (first | (with_reducible first | exact HB.out | apply below_alloc | apply pw_below_drewN | apply below_drew1 | refine below_set ?_ GE80106.out) | exact HB.out)); rintro e w32 ⟨rfl, hb⟩; have n0_ := Aside0.mk (Kd.R_below (by (with_reducible repeat (first | apply Kd.R_alloc | apply Kd.R_drewN | apply Kd.R_drew)); exact HO_8.out) hb); have n1_ := Aside0.mk (Kd.R_below (by (with_reducible repeat (first | apply Kd.R_alloc | apply Kd.R_drewN | apply Kd.R_drew)); exact HO_10.out) hb); have n2_ := Aside0.mk (blk_below (g := gb80106) (o := .cells #[.int .i64 t80103, .int .i64 t80104, .int .i64 t80105] 23 (0, 0)) (by (with_reducible repeat (first | refine blk_drewN ?_ _ | refine blk_drew ?_ | refine blk_alloc ?_ _)); exact BK80106.out) hb); have n3_ := Aside0.mk (below_step (by repeat (first | (with_reducible first | exact HB.out | apply below_alloc | apply pw_below_drewN | apply below_drew1 | refine below_set ?_ GE80106.out) | exact HB.out)) hb); clear HO_8; clear HO_10; clear BK80106; clear HB; have HO_8 := n0_; have HO_10 := n1_; have BK80106 := n2_; have HB := n3_; clear n0_ n1_ n2_ n3_; (try clear hb); (try clear hb2); (try clear hk); (try clear hi)) | ((with_reducible refine gate_dst (N := 13) rfl ?_); refine box_event ?hg (N := 13) ?hd (cs := #[.int .i64 0, .int .i64 0, .int .i64 0]) (t := 23) ?hr ?_; (case hd => rfl); (case hg => rfl); (case hr => first | (go_simp; done) | (go_simp; rfl)); intro gb80124 hg w33 hbox hb; have n0_ := Aside0.mk (Kd.R_below (by (with_reducible repeat (first | apply Kd.R_alloc | apply Kd.R_drewN | apply Kd.R_drew)); exact HO_8.out) hb); have n1_ := Aside0.mk (Kd.R_below (by (with_reducible repeat (first | apply Kd.R_alloc | apply Kd.R_drewN | apply Kd.R_drew)); exact HO_10.out) hb); have n2_ := Aside0.mk (blk_below (g := gb80106) (o := .cells #[.int .i64 t80103, .int .i64 t80104, .int .i64 t80105] 23 (0, 0)) (by (with_reducible repeat (first | refine blk_drewN ?_ _ | refine blk_drew ?_ | refine blk_alloc ?_ _)); exact BK80106.out) hb); have n3_ := Aside0.mk (below_step (by repeat (first | (with_reducible first | exact HB.out | apply below_alloc | apply pw_below_drewN | apply below_drew1 | refine below_set ?_ GE80106.out) | exact HB.out)) hb); have n4_ := Aside0.mk (hbox); have n5_ := Aside0.mk ((by rw [hg]; exact (below_size (by repeat (first | (with_reducible first | exact HB.out | apply below_alloc | apply pw_below_drewN | apply below_drew1 | refine below_set ?_ GE80106.out) | exact HB.out))) : w.heap.size ≤ gb80124)); have n6_ := Aside0.mk ((by rw [hg]; exact (below_size (by repeat (first | (with_reducible first | exact HB.out | apply below_alloc | apply pw_below_drewN | apply below_drew1 | refine below_set ?_ GE80106.out) | exact HB.out))) : w.heap.size ≤ gb80124)); have n7_ := Aside0.mk ((by rw [hg]; exact Nat.ne_of_lt (blk_lt (g := gb80106) (o := .cells #[.int .i64 t80103, .int .i64 t80104, .int .i64 t80105] 23 (0, 0)) (by (with_reducible repeat (first | refine blk_drewN ?_ _ | refine blk_drew ?_ | refine blk_alloc ?_ _)); exact BK80106.out)) : gb80106 ≠ gb80124)); have n8_ := Aside0.mk ((by rw [hg]; exact Nat.ne_of_gt (blk_lt (g := gb80106) (o := .cells #[.int .i64 t80103, .int .i64 t80104, .int .i64 t80105] 23 (0, 0)) (by (with_reducible repeat (first | refine blk_drewN ?_ _ | refine blk_drew ?_ | refine blk_alloc ?_ _)); exact BK80106.out)) : gb80124 ≠ gb80106)); clear HO_8; clear HO_10; clear BK80106; clear HB; have HO_8 := n0_; have HO_10 := n1_; have BK80106 := n2_; have HB := n3_; have BK80124 := n4_; have GW80124 := n5_; have GE80124 := n6_; have NB80106_80124 := n7_; have NB80124_80106 := n8_; clear n0_ n1_ n2_ n3_ n4_ n5_ n6_ n7_ n8_; clear hb hbox hg; have hnb34 := NB80124_80106.out; have hnc34 := NB80106_80124.out; have hcz35_0 : w33.cell? ⟨gb80124, 0, none⟩ = some (.int .i64 0) := (blk_cell BK80124.out 0).trans rfl; have hcz35_1 : w33.cell? ⟨gb80124, 1, none⟩ = some (.int .i64 0) := (blk_cell BK80124.out 1).trans rfl; have hcz35_2 : w33.cell? ⟨gb80124, 2, none⟩ = some (.int .i64 0) := (blk_cell BK80124.out 2).trans rfl; have hfz35_0 := blk_frozen BK80124.out 0; have hfz35_1 := blk_frozen BK80124.out 1; have hfz35_2 := blk_frozen BK80124.out 2; have hcz36_0 : w33.cell? ⟨gb80106, 0, none⟩ = some (.int .i64 t80103) := (blk_cell BK80106.out 0).trans rfl; have hcz36_1 : w33.cell? ⟨gb80106, 1, none⟩ = some (.int .i64 t80104) := (blk_cell BK80106.out 1).trans rfl; have hcz36_2 : w33.cell? ⟨gb80106, 2, none⟩ = some (.int .i64 t80105) := (blk_cell BK80106.out 2).trans rfl; have hfz36_0 := blk_frozen BK80106.out 0; have hfz36_1 := blk_frozen BK80106.out 1; have hfz36_2 := blk_frozen BK80106.out 2))
                        repeat (go_quiet (first | (go_at_call 21; (with_reducible refine (cal_ParseDate.calls (rdOf ByteArray.empty t80107 x12_2) t80119 t80120 t80121 t80122 t80123 _ ?side1 A21.out).mono ?_); (case side1 => refine GlobOk.below HG.out ?_; repeat (first | (with_reducible first | exact HB.out | apply below_alloc | apply pw_below_drewN | apply below_drew1 | refine below_set ?_ GE80106.out) | exact HB.out)); rintro e w32 ⟨rfl, hb⟩; have n0_ := Aside0.mk (Kd.R_below (by (with_reducible repeat (first | apply Kd.R_alloc | apply Kd.R_drewN | apply Kd.R_drew)); exact HO_8.out) hb); have n1_ := Aside0.mk (Kd.R_below (by (with_reducible repeat (first | apply Kd.R_alloc | apply Kd.R_drewN | apply Kd.R_drew)); exact HO_10.out) hb); have n2_ := Aside0.mk (blk_below (g := gb80106) (o := .cells #[.int .i64 t80103, .int .i64 t80104, .int .i64 t80105] 23 (0, 0)) (by (with_reducible repeat (first | refine blk_drewN ?_ _ | refine blk_drew ?_ | refine blk_alloc ?_ _)); exact BK80106.out) hb); have n3_ := Aside0.mk (below_step (by repeat (first | (with_reducible first | exact HB.out | apply below_alloc | apply pw_below_drewN | apply below_drew1 | refine below_set ?_ GE80106.out) | exact HB.out)) hb); clear HO_8; clear HO_10; clear BK80106; clear HB; have HO_8 := n0_; have HO_10 := n1_; have BK80106 := n2_; have HB := n3_; clear n0_ n1_ n2_ n3_; (try clear hb); (try clear hb2); (try clear hk); (try clear hi)) | ((with_reducible refine gate_dst (N := 13) rfl ?_); refine box_event ?hg (N := 13) ?hd (cs := #[.int .i64 0, .int .i64 0, .int .i64 0]) (t := 23) ?hr ?_; (case hd => rfl); (case hg => rfl); (case hr => first | (go_simp; done) | (go_simp; rfl)); intro gb80124 hg w33 hbox hb; have n0_ := Aside0.mk (Kd.R_below (by (with_reducible repeat (first | apply Kd.R_alloc | apply Kd.R_drewN | apply Kd.R_drew)); exact HO_8.out) hb); have n1_ := Aside0.mk (Kd.R_below (by (with_reducible repeat (first | apply Kd.R_alloc | apply Kd.R_drewN | apply Kd.R_drew)); exact HO_10.out) hb); have n2_ := Aside0.mk (blk_below (g := gb80106) (o := .cells #[.int .i64 t80103, .int .i64 t80104, .int .i64 t80105] 23 (0, 0)) (by (with_reducible repeat (first | refine blk_drewN ?_ _ | refine blk_drew ?_ | refine blk_alloc ?_ _)); exact BK80106.out) hb); have n3_ := Aside0.mk (below_step (by repeat (first | (with_reducible first | exact HB.out | apply below_alloc | apply pw_below_drewN | apply below_drew1 | refine below_set ?_ GE80106.out) | exact HB.out)) hb); have n4_ := Aside0.mk (hbox); have n5_ := Aside0.mk ((by rw [hg]; exact (below_size (by repeat (first | (with_reducible first | exact HB.out | apply below_alloc | apply pw_below_drewN | apply below_drew1 | refine below_set ?_ GE80106.out) | exact HB.out))) : w.heap.size ≤ gb80124)); have n6_ := Aside0.mk ((by rw [hg]; exact (below_size (by repeat (first | (with_reducible first | exact HB.out | apply below_alloc | apply pw_below_drewN | apply below_drew1 | refine below_set ?_ GE80106.out) | exact HB.out))) : w.heap.size ≤ gb80124)); have n7_ := Aside0.mk ((by rw [hg]; exact Nat.ne_of_lt (blk_lt (g := gb80106) (o := .cells #[.int .i64 t80103, .int .i64 t80104, .int .i64 t80105] 23 (0, 0)) (by (with_reducible repeat (first | refine blk_drewN ?_ _ | refine blk_drew ?_ | refine blk_alloc ?_ _)); exact BK80106.out)) : gb80106 ≠ gb80124)); have n8_ := Aside0.mk ((by rw [hg]; exact Nat.ne_of_gt (blk_lt (g := gb80106) (o := .cells #[.int .i64 t80103, .int .i64 t80104, .int .i64 t80105] 23 (0, 0)) (by (with_reducible repeat (first | refine blk_drewN ?_ _ | refine blk_drew ?_ | refine blk_alloc ?_ _)); exact BK80106.out)) : gb80124 ≠ gb80106)); clear HO_8; clear HO_10; clear BK80106; clear HB; have HO_8 := n0_; have HO_10 := n1_; have BK80106 := n2_; have HB := n3_; have BK80124 := n4_; have GW80124 := n5_; have GE80124 := n6_; have NB80106_80124 := n7_; have NB80124_80106 := n8_; clear n0_ n1_ n2_ n3_ n4_ n5_ n6_ n7_ n8_; clear hb hbox hg; have hnb34 := NB80124_80106.out; have hnc34 := NB80106_80124.out; have hcz35_0 : w33.cell? ⟨gb80124, 0, none⟩ = some (.int .i64 0) := (blk_cell BK80124.out 0).trans rfl; have hcz35_1 : w33.cell? ⟨gb80124, 1, none⟩ = some (.int .i64 0) := (blk_cell BK80124.out 1).trans rfl; have hcz35_2 : w33.cell? ⟨gb80124, 2, none⟩ = some (.int .i64 0) := (blk_cell BK80124.out 2).trans rfl; have hfz35_0 := blk_frozen BK80124.out 0; have hfz35_1 := blk_frozen BK80124.out 1; have hfz35_2 := blk_frozen BK80124.out 2; have hcz36_0 : w33.cell? ⟨gb80106, 0, none⟩ = some (.int .i64 t80103) := (blk_cell BK80106.out 0).trans rfl; have hcz36_1 : w33.cell? ⟨gb80106, 1, none⟩ = some (.int .i64 t80104) := (blk_cell BK80106.out 1).trans rfl; have hcz36_2 : w33.cell? ⟨gb80106, 2, none⟩ = some (.int .i64 t80105) := (blk_cell BK80106.out 2).trans rfl; have hfz36_0 := blk_frozen BK80106.out 0; have hfz36_1 := blk_frozen BK80106.out 1; have hfz36_2 := blk_frozen BK80106.out 2)); try go_wp2_with (first | (go_at_call 21; (with_reducible refine (cal_ParseDate.calls (rdOf ByteArray.empty t80107 x12_2) t80119 t80120 t80121 t80122 t80123 _ ?side1 A21.out).mono ?_); (case side1 => refine GlobOk.below HG.out ?_; repeat (first | (with_reducible first | exact HB.out | apply below_alloc | apply pw_below_drewN | apply below_drew1 | refine below_set ?_ GE80106.out) | exact HB.out)); rintro e w32 ⟨rfl, hb⟩; have n0_ := Aside0.mk (Kd.R_below (by (with_reducible repeat (first | apply Kd.R_alloc | apply Kd.R_drewN | apply Kd.R_drew)); exact HO_8.out) hb); have n1_ := Aside0.mk (Kd.R_below (by (with_reducible repeat (first | apply Kd.R_alloc | apply Kd.R_drewN | apply Kd.R_drew)); exact HO_10.out) hb); have n2_ := Aside0.mk (blk_below (g := gb80106) (o := .cells #[.int .i64 t80103, .int .i64 t80104, .int .i64 t80105] 23 (0, 0)) (by (with_reducible repeat (first | refine blk_drewN ?_ _ | refine blk_drew ?_ | refine blk_alloc ?_ _)); exact BK80106.out) hb); have n3_ := Aside0.mk (below_step (by repeat (first | (with_reducible first | exact HB.out | apply below_alloc | apply pw_below_drewN | apply below_drew1 | refine below_set ?_ GE80106.out) | exact HB.out)) hb); clear HO_8; clear HO_10; clear BK80106; clear HB; have HO_8 := n0_; have HO_10 := n1_; have BK80106 := n2_; have HB := n3_; clear n0_ n1_ n2_ n3_; (try clear hb); (try clear hb2); (try clear hk); (try clear hi)) | ((with_reducible refine gate_dst (N := 13) rfl ?_); refine box_event ?hg (N := 13) ?hd (cs := #[.int .i64 0, .int .i64 0, .int .i64 0]) (t := 23) ?hr ?_; (case hd => rfl); (case hg => rfl); (case hr => first | (go_simp; done) | (go_simp; rfl)); intro gb80124 hg w33 hbox hb; have n0_ := Aside0.mk (Kd.R_below (by (with_reducible repeat (first | apply Kd.R_alloc | apply Kd.R_drewN | apply Kd.R_drew)); exact HO_8.out) hb); have n1_ := Aside0.mk (Kd.R_below (by (with_reducible repeat (first | apply Kd.R_alloc | apply Kd.R_drewN | apply Kd.R_drew)); exact HO_10.out) hb); have n2_ := Aside0.mk (blk_below (g := gb80106) (o := .cells #[.int .i64 t80103, .int .i64 t80104, .int .i64 t80105] 23 (0, 0)) (by (with_reducible repeat (first | refine blk_drewN ?_ _ | refine blk_drew ?_ | refine blk_alloc ?_ _)); exact BK80106.out) hb); have n3_ := Aside0.mk (below_step (by repeat (first | (with_reducible first | exact HB.out | apply below_alloc | apply pw_below_drewN | apply below_drew1 | refine below_set ?_ GE80106.out) | exact HB.out)) hb); have n4_ := Aside0.mk (hbox); have n5_ := Aside0.mk ((by rw [hg]; exact (below_size (by repeat (first | (with_reducible first | exact HB.out | apply below_alloc | apply pw_below_drewN | apply below_drew1 | refine below_set ?_ GE80106.out) | exact HB.out))) : w.heap.size ≤ gb80124)); have n6_ := Aside0.mk ((by rw [hg]; exact (below_size (by repeat (first | (with_reducible first | exact HB.out | apply below_alloc | apply pw_below_drewN | apply below_drew1 | refine below_set ?_ GE80106.out) | exact HB.out))) : w.heap.size ≤ gb80124)); have n7_ := Aside0.mk ((by rw [hg]; exact Nat.ne_of_lt (blk_lt (g := gb80106) (o := .cells #[.int .i64 t80103, .int .i64 t80104, .int .i64 t80105] 23 (0, 0)) (by (with_reducible repeat (first | refine blk_drewN ?_ _ | refine blk_drew ?_ | refine blk_alloc ?_ _)); exact BK80106.out)) : gb80106 ≠ gb80124)); have n8_ := Aside0.mk ((by rw [hg]; exact Nat.ne_of_gt (blk_lt (g := gb80106) (o := .cells #[.int .i64 t80103, .int .i64 t80104, .int .i64 t80105] 23 (0, 0)) (by (with_reducible repeat (first | refine blk_drewN ?_ _ | refine blk_drew ?_ | refine blk_alloc ?_ _)); exact BK80106.out)) : gb80124 ≠ gb80106)); clear HO_8; clear HO_10; clear BK80106; clear HB; have HO_8 := n0_; have HO_10 := n1_; have BK80106 := n2_; have HB := n3_; have BK80124 := n4_; have GW80124 := n5_; have GE80124 := n6_; have NB80106_80124 := n7_; have NB80124_80106 := n8_; clear n0_ n1_ n2_ n3_ n4_ n5_ n6_ n7_ n8_; clear hb hbox hg; have hnb34 := NB80124_80106.out; have hnc34 := NB80106_80124.out; have hcz35_0 : w33.cell? ⟨gb80124, 0, none⟩ = some (.int .i64 0) := (blk_cell BK80124.out 0).trans rfl; have hcz35_1 : w33.cell? ⟨gb80124, 1, none⟩ = some (.int .i64 0) := (blk_cell BK80124.out 1).trans rfl; have hcz35_2 : w33.cell? ⟨gb80124, 2, none⟩ = some (.int .i64 0) := (blk_cell BK80124.out 2).trans rfl; have hfz35_0 := blk_frozen BK80124.out 0; have hfz35_1 := blk_frozen BK80124.out 1; have hfz35_2 := blk_frozen BK80124.out 2; have hcz36_0 : w33.cell? ⟨gb80106, 0, none⟩ = some (.int .i64 t80103) := (blk_cell BK80106.out 0).trans rfl; have hcz36_1 : w33.cell? ⟨gb80106, 1, none⟩ = some (.int .i64 t80104) := (blk_cell BK80106.out 1).trans rfl; have hcz36_2 : w33.cell? ⟨gb80106, 2, none⟩ = some (.int .i64 t80105) := (blk_cell BK80106.out 2).trans rfl; have hfz36_0 := blk_frozen BK80106.out 0; have hfz36_1 := blk_frozen BK80106.out 1; have hfz36_2 := blk_frozen BK80106.out 2)))
                        go_roundg k2
                        case measure => have := HJ8.out; have := HK2.out; omega
                        case rel => exact ⟨(wrap64 (x12_2 + 1)), (by first | rfl | (simp; done) | (simp [*]; done)), H', ⟨by have := HJ8.out; have := HK2.out; omega⟩, ⟨by (with_reducible repeat (first | apply Kd.R_alloc | apply Kd.R_drewN | apply Kd.R_drew)); exact Kd.R_mono (Kd.R_far (p := ⟨gb80124, 2, none⟩) (Kd.R_far (p := ⟨gb80124, 1, none⟩) (Kd.R_far (p := ⟨gb80124, 0, none⟩) (Kd.R_types HO_8.out BK80124.out (by decide)) (fun _ hk => hk.2) (.int .i64 t80119)) (fun _ hk => hk.2) (.int .i64 t80120)) (fun _ hk => hk.2) (.int .i64 t80121)) (fun _ hk => hk.1)⟩, ⟨by (with_reducible repeat (first | apply Kd.R_alloc | apply Kd.R_drewN | apply Kd.R_drew)); exact Kd.R_mono (Kd.R_far (p := ⟨gb80124, 2, none⟩) (Kd.R_far (p := ⟨gb80124, 1, none⟩) (Kd.R_far (p := ⟨gb80124, 0, none⟩) (Kd.R_types HO_10.out BK80124.out (by decide)) (fun _ hk => hk.2) (.int .i64 t80119)) (fun _ hk => hk.2) (.int .i64 t80120)) (fun _ hk => hk.2) (.int .i64 t80121)) (fun _ hk => hk.1)⟩, ⟨by (with_reducible repeat (first | refine blk_drewN ?_ _ | refine blk_drew ?_ | refine blk_alloc ?_ _)); refine blk_far ?_ NB80106_80124.out _; (with_reducible repeat (first | refine blk_drewN ?_ _ | refine blk_drew ?_ | refine blk_alloc ?_ _)); refine blk_far ?_ NB80106_80124.out _; (with_reducible repeat (first | refine blk_drewN ?_ _ | refine blk_drew ?_ | refine blk_alloc ?_ _)); refine blk_far ?_ NB80106_80124.out _; (with_reducible repeat (first | refine blk_drewN ?_ _ | refine blk_drew ?_ | refine blk_alloc ?_ _)); exact BK80106.out⟩, ⟨by repeat (first | (with_reducible first | exact HB.out | apply below_alloc | apply pw_below_drewN | apply below_drew1 | refine below_set ?_ GE80106.out | refine below_set ?_ GE80124.out) | exact HB.out)⟩⟩
                      · rw [if_neg c30] at H
                        have c30b0 : (t80123 == 0) = false := beq_eq_false_iff_ne.mpr c30
                        have c30b1 : (t80123 != 0) = true := bne_iff_ne.mpr c30
                        obtain rfl := Option.some.inj H
                        obtain ⟨Ao37, co37, eo37⟩ := Kd.R_slice HO_8.out
                        subst eo37
                        have p80118 : 0 ≤ (x12_2 : Int) := of_decide_eq_true (by first | (with_reducible assumption) | assumption)
                        have q80118 : x12_2 < (t80107.length : Int) := of_decide_eq_true (by first | (with_reducible assumption) | assumption)
                        obtain ⟨ad80118, e80118, hx80118_0⟩ := Kd.at_string (Kd.R_reads' HO_8.out).2.2 x12_2 p80118 q80118
                        cases e80118
                        replace p80118 := eq_true p80118
                        replace q80118 := eq_true q80118
                        go_wp2_with (first | (go_at_call 21; (with_reducible refine (cal_ParseDate.calls (rdOf ByteArray.empty t80107 x12_2) t80119 t80120 t80121 t80122 t80123 _ ?side1 A21.out).mono ?_); (case side1 => refine GlobOk.below HG.out ?_; repeat (first | (with_reducible first | exact HB.out | apply below_alloc | apply pw_below_drewN | apply below_drew1 | refine below_set ?_ GE80106.out) | exact HB.out)); rintro e w38 ⟨rfl, hb⟩; have n0_ := Aside0.mk (Kd.R_below (by (with_reducible repeat (first | apply Kd.R_alloc | apply Kd.R_drewN | apply Kd.R_drew)); exact HO_8.out) hb); have n1_ := Aside0.mk (Kd.R_below (by (with_reducible repeat (first | apply Kd.R_alloc | apply Kd.R_drewN | apply Kd.R_drew)); exact HO_10.out) hb); have n2_ := Aside0.mk (blk_below (g := gb80106) (o := .cells #[.int .i64 t80103, .int .i64 t80104, .int .i64 t80105] 23 (0, 0)) (by (with_reducible repeat (first | refine blk_drewN ?_ _ | refine blk_drew ?_ | refine blk_alloc ?_ _)); exact BK80106.out) hb); have n3_ := Aside0.mk (below_step (by repeat (first | (with_reducible first | exact HB.out | apply below_alloc | apply pw_below_drewN | apply below_drew1 | refine below_set ?_ GE80106.out) | exact HB.out)) hb); clear HO_8; clear HO_10; clear BK80106; clear HB; have HO_8 := n0_; have HO_10 := n1_; have BK80106 := n2_; have HB := n3_; clear n0_ n1_ n2_ n3_; (try clear hb); (try clear hb2); (try clear hk); (try clear hi)) | ((with_reducible refine gate_dst (N := 13) rfl ?_); refine box_event ?hg (N := 13) ?hd (cs := #[.int .i64 0, .int .i64 0, .int .i64 0]) (t := 23) ?hr ?_; (case hd => rfl); (case hg => rfl); (case hr => first | (go_simp; done) | (go_simp; rfl)); intro gb80124 hg w39 hbox hb; have n0_ := Aside0.mk (Kd.R_below (by (with_reducible repeat (first | apply Kd.R_alloc | apply Kd.R_drewN | apply Kd.R_drew)); exact HO_8.out) hb); have n1_ := Aside0.mk (Kd.R_below (by (with_reducible repeat (first | apply Kd.R_alloc | apply Kd.R_drewN | apply Kd.R_drew)); exact HO_10.out) hb); have n2_ := Aside0.mk (blk_below (g := gb80106) (o := .cells #[.int .i64 t80103, .int .i64 t80104, .int .i64 t80105] 23 (0, 0)) (by (with_reducible repeat (first | refine blk_drewN ?_ _ | refine blk_drew ?_ | refine blk_alloc ?_ _)); exact BK80106.out) hb); have n3_ := Aside0.mk (below_step (by repeat (first | (with_reducible first | exact HB.out | apply below_alloc | apply pw_below_drewN | apply below_drew1 | refine below_set ?_ GE80106.out) | exact HB.out)) hb); have n4_ := Aside0.mk (hbox); have n5_ := Aside0.mk ((by rw [hg]; exact (below_size (by repeat (first | (with_reducible first | exact HB.out | apply below_alloc | apply pw_below_drewN | apply below_drew1 | refine below_set ?_ GE80106.out) | exact HB.out))) : w.heap.size ≤ gb80124)); have n6_ := Aside0.mk ((by rw [hg]; exact (below_size (by repeat (first | (with_reducible first | exact HB.out | apply below_alloc | apply pw_below_drewN | apply below_drew1 | refine below_set ?_ GE80106.out) | exact HB.out))) : w.heap.size ≤ gb80124)); have n7_ := Aside0.mk ((by rw [hg]; exact Nat.ne_of_lt (blk_lt (g := gb80106) (o := .cells #[.int .i64 t80103, .int .i64 t80104, .int .i64 t80105] 23 (0, 0)) (by (with_reducible repeat (first | refine blk_drewN ?_ _ | refine blk_drew ?_ | refine blk_alloc ?_ _)); exact BK80106.out)) : gb80106 ≠ gb80124)); have n8_ := Aside0.mk ((by rw [hg]; exact Nat.ne_of_gt (blk_lt (g := gb80106) (o := .cells #[.int .i64 t80103, .int .i64 t80104, .int .i64 t80105] 23 (0, 0)) (by (with_reducible repeat (first | refine blk_drewN ?_ _ | refine blk_drew ?_ | refine blk_alloc ?_ _)); exact BK80106.out)) : gb80124 ≠ gb80106)); clear HO_8; clear HO_10; clear BK80106; clear HB; have HO_8 := n0_; have HO_10 := n1_; have BK80106 := n2_; have HB := n3_; have BK80124 := n4_; have GW80124 := n5_; have GE80124 := n6_; have NB80106_80124 := n7_; have NB80124_80106 := n8_; clear n0_ n1_ n2_ n3_ n4_ n5_ n6_ n7_ n8_; clear hb hbox hg; have hnb40 := NB80124_80106.out; have hnc40 := NB80106_80124.out; have hcz41_0 : w39.cell? ⟨gb80124, 0, none⟩ = some (.int .i64 0) := (blk_cell BK80124.out 0).trans rfl; have hcz41_1 : w39.cell? ⟨gb80124, 1, none⟩ = some (.int .i64 0) := (blk_cell BK80124.out 1).trans rfl; have hcz41_2 : w39.cell? ⟨gb80124, 2, none⟩ = some (.int .i64 0) := (blk_cell BK80124.out 2).trans rfl; have hfz41_0 := blk_frozen BK80124.out 0; have hfz41_1 := blk_frozen BK80124.out 1; have hfz41_2 := blk_frozen BK80124.out 2; have hcz42_0 : w39.cell? ⟨gb80106, 0, none⟩ = some (.int .i64 t80103) := (blk_cell BK80106.out 0).trans rfl; have hcz42_1 : w39.cell? ⟨gb80106, 1, none⟩ = some (.int .i64 t80104) := (blk_cell BK80106.out 1).trans rfl; have hcz42_2 : w39.cell? ⟨gb80106, 2, none⟩ = some (.int .i64 t80105) := (blk_cell BK80106.out 2).trans rfl; have hfz42_0 := blk_frozen BK80106.out 0; have hfz42_1 := blk_frozen BK80106.out 1; have hfz42_2 := blk_frozen BK80106.out 2))
                        repeat (go_quiet (first | (go_at_call 21; (with_reducible refine (cal_ParseDate.calls (rdOf ByteArray.empty t80107 x12_2) t80119 t80120 t80121 t80122 t80123 _ ?side1 A21.out).mono ?_); (case side1 => refine GlobOk.below HG.out ?_; repeat (first | (with_reducible first | exact HB.out | apply below_alloc | apply pw_below_drewN | apply below_drew1 | refine below_set ?_ GE80106.out) | exact HB.out)); rintro e w38 ⟨rfl, hb⟩; have n0_ := Aside0.mk (Kd.R_below (by (with_reducible repeat (first | apply Kd.R_alloc | apply Kd.R_drewN | apply Kd.R_drew)); exact HO_8.out) hb); have n1_ := Aside0.mk (Kd.R_below (by (with_reducible repeat (first | apply Kd.R_alloc | apply Kd.R_drewN | apply Kd.R_drew)); exact HO_10.out) hb); have n2_ := Aside0.mk (blk_below (g := gb80106) (o := .cells #[.int .i64 t80103, .int .i64 t80104, .int .i64 t80105] 23 (0, 0)) (by (with_reducible repeat (first | refine blk_drewN ?_ _ | refine blk_drew ?_ | refine blk_alloc ?_ _)); exact BK80106.out) hb); have n3_ := Aside0.mk (below_step (by repeat (first | (with_reducible first | exact HB.out | apply below_alloc | apply pw_below_drewN | apply below_drew1 | refine below_set ?_ GE80106.out) | exact HB.out)) hb); clear HO_8; clear HO_10; clear BK80106; clear HB; have HO_8 := n0_; have HO_10 := n1_; have BK80106 := n2_; have HB := n3_; clear n0_ n1_ n2_ n3_; (try clear hb); (try clear hb2); (try clear hk); (try clear hi)) | ((with_reducible refine gate_dst (N := 13) rfl ?_); refine box_event ?hg (N := 13) ?hd (cs := #[.int .i64 0, .int .i64 0, .int .i64 0]) (t := 23) ?hr ?_; (case hd => rfl); (case hg => rfl); (case hr => first | (go_simp; done) | (go_simp; rfl)); intro gb80124 hg w39 hbox hb; have n0_ := Aside0.mk (Kd.R_below (by (with_reducible repeat (first | apply Kd.R_alloc | apply Kd.R_drewN | apply Kd.R_drew)); exact HO_8.out) hb); have n1_ := Aside0.mk (Kd.R_below (by (with_reducible repeat (first | apply Kd.R_alloc | apply Kd.R_drewN | apply Kd.R_drew)); exact HO_10.out) hb); have n2_ := Aside0.mk (blk_below (g := gb80106) (o := .cells #[.int .i64 t80103, .int .i64 t80104, .int .i64 t80105] 23 (0, 0)) (by (with_reducible repeat (first | refine blk_drewN ?_ _ | refine blk_drew ?_ | refine blk_alloc ?_ _)); exact BK80106.out) hb); have n3_ := Aside0.mk (below_step (by repeat (first | (with_reducible first | exact HB.out | apply below_alloc | apply pw_below_drewN | apply below_drew1 | refine below_set ?_ GE80106.out) | exact HB.out)) hb); have n4_ := Aside0.mk (hbox); have n5_ := Aside0.mk ((by rw [hg]; exact (below_size (by repeat (first | (with_reducible first | exact HB.out | apply below_alloc | apply pw_below_drewN | apply below_drew1 | refine below_set ?_ GE80106.out) | exact HB.out))) : w.heap.size ≤ gb80124)); have n6_ := Aside0.mk ((by rw [hg]; exact (below_size (by repeat (first | (with_reducible first | exact HB.out | apply below_alloc | apply pw_below_drewN | apply below_drew1 | refine below_set ?_ GE80106.out) | exact HB.out))) : w.heap.size ≤ gb80124)); have n7_ := Aside0.mk ((by rw [hg]; exact Nat.ne_of_lt (blk_lt (g := gb80106) (o := .cells #[.int .i64 t80103, .int .i64 t80104, .int .i64 t80105] 23 (0, 0)) (by (with_reducible repeat (first | refine blk_drewN ?_ _ | refine blk_drew ?_ | refine blk_alloc ?_ _)); exact BK80106.out)) : gb80106 ≠ gb80124)); have n8_ := Aside0.mk ((by rw [hg]; exact Nat.ne_of_gt (blk_lt (g := gb80106) (o := .cells #[.int .i64 t80103, .int .i64 t80104, .int .i64 t80105] 23 (0, 0)) (by (with_reducible repeat (first | refine blk_drewN ?_ _ | refine blk_drew ?_ | refine blk_alloc ?_ _)); exact BK80106.out)) : gb80124 ≠ gb80106)); clear HO_8; clear HO_10; clear BK80106; clear HB; have HO_8 := n0_; have HO_10 := n1_; have BK80106 := n2_; have HB := n3_; have BK80124 := n4_; have GW80124 := n5_; have GE80124 := n6_; have NB80106_80124 := n7_; have NB80124_80106 := n8_; clear n0_ n1_ n2_ n3_ n4_ n5_ n6_ n7_ n8_; clear hb hbox hg; have hnb40 := NB80124_80106.out; have hnc40 := NB80106_80124.out; have hcz41_0 : w39.cell? ⟨gb80124, 0, none⟩ = some (.int .i64 0) := (blk_cell BK80124.out 0).trans rfl; have hcz41_1 : w39.cell? ⟨gb80124, 1, none⟩ = some (.int .i64 0) := (blk_cell BK80124.out 1).trans rfl; have hcz41_2 : w39.cell? ⟨gb80124, 2, none⟩ = some (.int .i64 0) := (blk_cell BK80124.out 2).trans rfl; have hfz41_0 := blk_frozen BK80124.out 0; have hfz41_1 := blk_frozen BK80124.out 1; have hfz41_2 := blk_frozen BK80124.out 2; have hcz42_0 : w39.cell? ⟨gb80106, 0, none⟩ = some (.int .i64 t80103) := (blk_cell BK80106.out 0).trans rfl; have hcz42_1 : w39.cell? ⟨gb80106, 1, none⟩ = some (.int .i64 t80104) := (blk_cell BK80106.out 1).trans rfl; have hcz42_2 : w39.cell? ⟨gb80106, 2, none⟩ = some (.int .i64 t80105) := (blk_cell BK80106.out 2).trans rfl; have hfz42_0 := blk_frozen BK80106.out 0; have hfz42_1 := blk_frozen BK80106.out 1; have hfz42_2 := blk_frozen BK80106.out 2)); try go_wp2_with (first | (go_at_call 21; (with_reducible refine (cal_ParseDate.calls (rdOf ByteArray.empty t80107 x12_2) t80119 t80120 t80121 t80122 t80123 _ ?side1 A21.out).mono ?_); (case side1 => refine GlobOk.below HG.out ?_; repeat (first | (with_reducible first | exact HB.out | apply below_alloc | apply pw_below_drewN | apply below_drew1 | refine below_set ?_ GE80106.out) | exact HB.out)); rintro e w38 ⟨rfl, hb⟩; have n0_ := Aside0.mk (Kd.R_below (by (with_reducible repeat (first | apply Kd.R_alloc | apply Kd.R_drewN | apply Kd.R_drew)); exact HO_8.out) hb); have n1_ := Aside0.mk (Kd.R_below (by (with_reducible repeat (first | apply Kd.R_alloc | apply Kd.R_drewN | apply Kd.R_drew)); exact HO_10.out) hb); have n2_ := Aside0.mk (blk_below (g := gb80106) (o := .cells #[.int .i64 t80103, .int .i64 t80104, .int .i64 t80105] 23 (0, 0)) (by (with_reducible repeat (first | refine blk_drewN ?_ _ | refine blk_drew ?_ | refine blk_alloc ?_ _)); exact BK80106.out) hb); have n3_ := Aside0.mk (below_step (by repeat (first | (with_reducible first | exact HB.out | apply below_alloc | apply pw_below_drewN | apply below_drew1 | refine below_set ?_ GE80106.out) | exact HB.out)) hb); clear HO_8; clear HO_10; clear BK80106; clear HB; have HO_8 := n0_; have HO_10 := n1_; have BK80106 := n2_; have HB := n3_; clear n0_ n1_ n2_ n3_; (try clear hb); (try clear hb2); (try clear hk); (try clear hi)) | ((with_reducible refine gate_dst (N := 13) rfl ?_); refine box_event ?hg (N := 13) ?hd (cs := #[.int .i64 0, .int .i64 0, .int .i64 0]) (t := 23) ?hr ?_; (case hd => rfl); (case hg => rfl); (case hr => first | (go_simp; done) | (go_simp; rfl)); intro gb80124 hg w39 hbox hb; have n0_ := Aside0.mk (Kd.R_below (by (with_reducible repeat (first | apply Kd.R_alloc | apply Kd.R_drewN | apply Kd.R_drew)); exact HO_8.out) hb); have n1_ := Aside0.mk (Kd.R_below (by (with_reducible repeat (first | apply Kd.R_alloc | apply Kd.R_drewN | apply Kd.R_drew)); exact HO_10.out) hb); have n2_ := Aside0.mk (blk_below (g := gb80106) (o := .cells #[.int .i64 t80103, .int .i64 t80104, .int .i64 t80105] 23 (0, 0)) (by (with_reducible repeat (first | refine blk_drewN ?_ _ | refine blk_drew ?_ | refine blk_alloc ?_ _)); exact BK80106.out) hb); have n3_ := Aside0.mk (below_step (by repeat (first | (with_reducible first | exact HB.out | apply below_alloc | apply pw_below_drewN | apply below_drew1 | refine below_set ?_ GE80106.out) | exact HB.out)) hb); have n4_ := Aside0.mk (hbox); have n5_ := Aside0.mk ((by rw [hg]; exact (below_size (by repeat (first | (with_reducible first | exact HB.out | apply below_alloc | apply pw_below_drewN | apply below_drew1 | refine below_set ?_ GE80106.out) | exact HB.out))) : w.heap.size ≤ gb80124)); have n6_ := Aside0.mk ((by rw [hg]; exact (below_size (by repeat (first | (with_reducible first | exact HB.out | apply below_alloc | apply pw_below_drewN | apply below_drew1 | refine below_set ?_ GE80106.out) | exact HB.out))) : w.heap.size ≤ gb80124)); have n7_ := Aside0.mk ((by rw [hg]; exact Nat.ne_of_lt (blk_lt (g := gb80106) (o := .cells #[.int .i64 t80103, .int .i64 t80104, .int .i64 t80105] 23 (0, 0)) (by (with_reducible repeat (first | refine blk_drewN ?_ _ | refine blk_drew ?_ | refine blk_alloc ?_ _)); exact BK80106.out)) : gb80106 ≠ gb80124)); have n8_ := Aside0.mk ((by rw [hg]; exact Nat.ne_of_gt (blk_lt (g := gb80106) (o := .cells #[.int .i64 t80103, .int .i64 t80104, .int .i64 t80105] 23 (0, 0)) (by (with_reducible repeat (first | refine blk_drewN ?_ _ | refine blk_drew ?_ | refine blk_alloc ?_ _)); exact BK80106.out)) : gb80124 ≠ gb80106)); clear HO_8; clear HO_10; clear BK80106; clear HB; have HO_8 := n0_; have HO_10 := n1_; have BK80106 := n2_; have HB := n3_; have BK80124 := n4_; have GW80124 := n5_; have GE80124 := n6_; have NB80106_80124 := n7_; have NB80124_80106 := n8_; clear n0_ n1_ n2_ n3_ n4_ n5_ n6_ n7_ n8_; clear hb hbox hg; have hnb40 := NB80124_80106.out; have hnc40 := NB80106_80124.out; have hcz41_0 : w39.cell? ⟨gb80124, 0, none⟩ = some (.int .i64 0) := (blk_cell BK80124.out 0).trans rfl; have hcz41_1 : w39.cell? ⟨gb80124, 1, none⟩ = some (.int .i64 0) := (blk_cell BK80124.out 1).trans rfl; have hcz41_2 : w39.cell? ⟨gb80124, 2, none⟩ = some (.int .i64 0) := (blk_cell BK80124.out 2).trans rfl; have hfz41_0 := blk_frozen BK80124.out 0; have hfz41_1 := blk_frozen BK80124.out 1; have hfz41_2 := blk_frozen BK80124.out 2; have hcz42_0 : w39.cell? ⟨gb80106, 0, none⟩ = some (.int .i64 t80103) := (blk_cell BK80106.out 0).trans rfl; have hcz42_1 : w39.cell? ⟨gb80106, 1, none⟩ = some (.int .i64 t80104) := (blk_cell BK80106.out 1).trans rfl; have hcz42_2 : w39.cell? ⟨gb80106, 2, none⟩ = some (.int .i64 t80105) := (blk_cell BK80106.out 2).trans rfl; have hfz42_0 := blk_frozen BK80106.out 0; have hfz42_1 := blk_frozen BK80106.out 1; have hfz42_2 := blk_frozen BK80106.out 2)))
                        go_ret
                        exact ⟨by first | rfl | (simp [errW_none, errW_some] <;> rfl) | (simp [*, errW_none, errW_some] <;> rfl), by repeat (first | (with_reducible first | exact HB.out | apply below_alloc | apply pw_below_drewN | apply below_drew1 | refine below_set ?_ GE80106.out | refine below_set ?_ GE80124.out) | exact HB.out)⟩
                    · rw [if_neg c29] at H
                      have c29b0 : (t80122 == 0) = false := beq_eq_false_iff_ne.mpr c29
                      have c29b1 : (t80122 != 0) = true := bne_iff_ne.mpr c29
                      obtain rfl := Option.some.inj H
                      obtain ⟨Ao43, co43, eo43⟩ := Kd.R_slice HO_8.out
                      subst eo43
                      have p80118 : 0 ≤ (x12_2 : Int) := of_decide_eq_true (by first | (with_reducible assumption) | assumption)
                      have q80118 : x12_2 < (t80107.length : Int) := of_decide_eq_true (by first | (with_reducible assumption) | assumption)
                      obtain ⟨ad80118, e80118, hx80118_0⟩ := Kd.at_string (Kd.R_reads' HO_8.out).2.2 x12_2 p80118 q80118
                      cases e80118
                      replace p80118 := eq_true p80118
                      replace q80118 := eq_true q80118
                      go_wp2_with (first | (go_at_call 21; (with_reducible refine (cal_ParseDate.calls (rdOf ByteArray.empty t80107 x12_2) t80119 t80120 t80121 t80122 t80123 _ ?side1 A21.out).mono ?_); (case side1 => refine GlobOk.below HG.out ?_; repeat (first | (with_reducible first | exact HB.out | apply below_alloc | apply pw_below_drewN | apply below_drew1 | refine below_set ?_ GE80106.out) | exact HB.out)); rintro e w44 ⟨rfl, hb⟩; have n0_ := Aside0.mk (Kd.R_below (by (with_reducible repeat (first | apply Kd.R_alloc | apply Kd.R_drewN | apply Kd.R_drew)); exact HO_8.out) hb); have n1_ := Aside0.mk (Kd.R_below (by (with_reducible repeat (first | apply Kd.R_alloc | apply Kd.R_drewN | apply Kd.R_drew)); exact HO_10.out) hb); have n2_ := Aside0.mk (blk_below (g := gb80106) (o := .cells #[.int .i64 t80103, .int .i64 t80104, .int .i64 t80105] 23 (0, 0)) (by (with_reducible repeat (first | refine blk_drewN ?_ _ | refine blk_drew ?_ | refine blk_alloc ?_ _)); exact BK80106.out) hb); have n3_ := Aside0.mk (below_step (by repeat (first | (with_reducible first | exact HB.out | apply below_alloc | apply pw_below_drewN | apply below_drew1 | refine below_set ?_ GE80106.out) | exact HB.out)) hb); clear HO_8; clear HO_10; clear BK80106; clear HB; have HO_8 := n0_; have HO_10 := n1_; have BK80106 := n2_; have HB := n3_; clear n0_ n1_ n2_ n3_; (try clear hb); (try clear hb2); (try clear hk); (try clear hi)) | ((with_reducible refine gate_dst (N := 13) rfl ?_); refine box_event ?hg (N := 13) ?hd (cs := #[.int .i64 0, .int .i64 0, .int .i64 0]) (t := 23) ?hr ?_; (case hd => rfl); (case hg => rfl); (case hr => first | (go_simp; done) | (go_simp; rfl)); intro gb80124 hg w45 hbox hb; have n0_ := Aside0.mk (Kd.R_below (by (with_reducible repeat (first | apply Kd.R_alloc | apply Kd.R_drewN | apply Kd.R_drew)); exact HO_8.out) hb); have n1_ := Aside0.mk (Kd.R_below (by (with_reducible repeat (first | apply Kd.R_alloc | apply Kd.R_drewN | apply Kd.R_drew)); exact HO_10.out) hb); have n2_ := Aside0.mk (blk_below (g := gb80106) (o := .cells #[.int .i64 t80103, .int .i64 t80104, .int .i64 t80105] 23 (0, 0)) (by (with_reducible repeat (first | refine blk_drewN ?_ _ | refine blk_drew ?_ | refine blk_alloc ?_ _)); exact BK80106.out) hb); have n3_ := Aside0.mk (below_step (by repeat (first | (with_reducible first | exact HB.out | apply below_alloc | apply pw_below_drewN | apply below_drew1 | refine below_set ?_ GE80106.out) | exact HB.out)) hb); have n4_ := Aside0.mk (hbox); have n5_ := Aside0.mk ((by rw [hg]; exact (below_size (by repeat (first | (with_reducible first | exact HB.out | apply below_alloc | apply pw_below_drewN | apply below_drew1 | refine below_set ?_ GE80106.out) | exact HB.out))) : w.heap.size ≤ gb80124)); have n6_ := Aside0.mk ((by rw [hg]; exact (below_size (by repeat (first | (with_reducible first | exact HB.out | apply below_alloc | apply pw_below_drewN | apply below_drew1 | refine below_set ?_ GE80106.out) | exact HB.out))) : w.heap.size ≤ gb80124)); have n7_ := Aside0.mk ((by rw [hg]; exact Nat.ne_of_lt (blk_lt (g := gb80106) (o := .cells #[.int .i64 t80103, .int .i64 t80104, .int .i64 t80105] 23 (0, 0)) (by (with_reducible repeat (first | refine blk_drewN ?_ _ | refine blk_drew ?_ | refine blk_alloc ?_ _)); exact BK80106.out)) : gb80106 ≠ gb80124)); have n8_ := Aside0.mk ((by rw [hg]; exact Nat.ne_of_gt (blk_lt (g := gb80106) (o := .cells #[.int .i64 t80103, .int .i64 t80104, .int .i64 t80105] 23 (0, 0)) (by (with_reducible repeat (first | refine blk_drewN ?_ _ | refine blk_drew ?_ | refine blk_alloc ?_ _)); exact BK80106.out)) : gb80124 ≠ gb80106)); clear HO_8; clear HO_10; clear BK80106; clear HB; have HO_8 := n0_; have HO_10 := n1_; have BK80106 := n2_; have HB := n3_; have BK80124 := n4_; have GW80124 := n5_; have GE80124 := n6_; have NB80106_80124 := n7_; have NB80124_80106 := n8_; clear n0_ n1_ n2_ n3_ n4_ n5_ n6_ n7_ n8_; clear hb hbox hg; have hnb46 := NB80124_80106.out; have hnc46 := NB80106_80124.out; have hcz47_0 : w45.cell? ⟨gb80124, 0, none⟩ = some (.int .i64 0) := (blk_cell BK80124.out 0).trans rfl; have hcz47_1 : w45.cell? ⟨gb80124, 1, none⟩ = some (.int .i64 0) := (blk_cell BK80124.out 1).trans rfl; have hcz47_2 : w45.cell? ⟨gb80124, 2, none⟩ = some (.int .i64 0) := (blk_cell BK80124.out 2).trans rfl; have hfz47_0 := blk_frozen BK80124.out 0; have hfz47_1 := blk_frozen BK80124.out 1; have hfz47_2 := blk_frozen BK80124.out 2; have hcz48_0 : w45.cell? ⟨gb80106, 0, none⟩ = some (.int .i64 t80103) := (blk_cell BK80106.out 0).trans rfl; have hcz48_1 : w45.cell? ⟨gb80106, 1, none⟩ = some (.int .i64 t80104) := (blk_cell BK80106.out 1).trans rfl; have hcz48_2 : w45.cell? ⟨gb80106, 2, none⟩ = some (.int .i64 t80105) := (blk_cell BK80106.out 2).trans rfl; have hfz48_0 := blk_frozen BK80106.out 0; have hfz48_1 := blk_frozen BK80106.out 1; have hfz48_2 := blk_frozen BK80106.out 2))
                      repeat (go_quiet (first | (go_at_call 21; (with_reducible refine (cal_ParseDate.calls (rdOf ByteArray.empty t80107 x12_2) t80119 t80120 t80121 t80122 t80123 _ ?side1 A21.out).mono ?_); (case side1 => refine GlobOk.below HG.out ?_; repeat (first | (with_reducible first | exact HB.out | apply below_alloc | apply pw_below_drewN | apply below_drew1 | refine below_set ?_ GE80106.out) | exact HB.out)); rintro e w44 ⟨rfl, hb⟩; have n0_ := Aside0.mk (Kd.R_below (by (with_reducible repeat (first | apply Kd.R_alloc | apply Kd.R_drewN | apply Kd.R_drew)); exact HO_8.out) hb); have n1_ := Aside0.mk (Kd.R_below (by (with_reducible repeat (first | apply Kd.R_alloc | apply Kd.R_drewN | apply Kd.R_drew)); exact HO_10.out) hb); have n2_ := Aside0.mk (blk_below (g := gb80106) (o := .cells #[.int .i64 t80103, .int .i64 t80104, .int .i64 t80105] 23 (0, 0)) (by (with_reducible repeat (first | refine blk_drewN ?_ _ | refine blk_drew ?_ | refine blk_alloc ?_ _)); exact BK80106.out) hb); have n3_ := Aside0.mk (below_step (by repeat (first | (with_reducible first | exact HB.out | apply below_alloc | apply pw_below_drewN | apply below_drew1 | refine below_set ?_ GE80106.out) | exact HB.out)) hb); clear HO_8; clear HO_10; clear BK80106; clear HB; have HO_8 := n0_; have HO_10 := n1_; have BK80106 := n2_; have HB := n3_; clear n0_ n1_ n2_ n3_; (try clear hb); (try clear hb2); (try clear hk); (try clear hi)) | ((with_reducible refine gate_dst (N := 13) rfl ?_); refine box_event ?hg (N := 13) ?hd (cs := #[.int .i64 0, .int .i64 0, .int .i64 0]) (t := 23) ?hr ?_; (case hd => rfl); (case hg => rfl); (case hr => first | (go_simp; done) | (go_simp; rfl)); intro gb80124 hg w45 hbox hb; have n0_ := Aside0.mk (Kd.R_below (by (with_reducible repeat (first | apply Kd.R_alloc | apply Kd.R_drewN | apply Kd.R_drew)); exact HO_8.out) hb); have n1_ := Aside0.mk (Kd.R_below (by (with_reducible repeat (first | apply Kd.R_alloc | apply Kd.R_drewN | apply Kd.R_drew)); exact HO_10.out) hb); have n2_ := Aside0.mk (blk_below (g := gb80106) (o := .cells #[.int .i64 t80103, .int .i64 t80104, .int .i64 t80105] 23 (0, 0)) (by (with_reducible repeat (first | refine blk_drewN ?_ _ | refine blk_drew ?_ | refine blk_alloc ?_ _)); exact BK80106.out) hb); have n3_ := Aside0.mk (below_step (by repeat (first | (with_reducible first | exact HB.out | apply below_alloc | apply pw_below_drewN | apply below_drew1 | refine below_set ?_ GE80106.out) | exact HB.out)) hb); have n4_ := Aside0.mk (hbox); have n5_ := Aside0.mk ((by rw [hg]; exact (below_size (by repeat (first | (with_reducible first | exact HB.out | apply below_alloc | apply pw_below_drewN | apply below_drew1 | refine below_set ?_ GE80106.out) | exact HB.out))) : w.heap.size ≤ gb80124)); have n6_ := Aside0.mk ((by rw [hg]; exact (below_size (by repeat (first | (with_reducible first | exact HB.out | apply below_alloc | apply pw_below_drewN | apply below_drew1 | refine below_set ?_ GE80106.out) | exact HB.out))) : w.heap.size ≤ gb80124)); have n7_ := Aside0.mk ((by rw [hg]; exact Nat.ne_of_lt (blk_lt (g := gb80106) (o := .cells #[.int .i64 t80103, .int .i64 t80104, .int .i64 t80105] 23 (0, 0)) (by (with_reducible repeat (first | refine blk_drewN ?_ _ | refine blk_drew ?_ | refine blk_alloc ?_ _)); exact BK80106.out)) : gb80106 ≠ gb80124)); have n8_ := Aside0.mk ((by rw [hg]; exact Nat.ne_of_gt (blk_lt (g := gb80106) (o := .cells #[.int .i64 t80103, .int .i64 t80104, .int .i64 t80105] 23 (0, 0)) (by (with_reducible repeat (first | refine blk_drewN ?_ _ | refine blk_drew ?_ | refine blk_alloc ?_ _)); exact BK80106.out)) : gb80124 ≠ gb80106)); clear HO_8; clear HO_10; clear BK80106; clear HB; have HO_8 := n0_; have HO_10 := n1_; have BK80106 := n2_; have HB := n3_; have BK80124 := n4_; have GW80124 := n5_; have GE80124 := n6_; have NB80106_80124 := n7_; have NB80124_80106 := n8_; clear n0_ n1_ n2_ n3_ n4_ n5_ n6_ n7_ n8_; clear hb hbox hg; have hnb46 := NB80124_80106.out; have hnc46 := NB80106_80124.out; have hcz47_0 : w45.cell? ⟨gb80124, 0, none⟩ = some (.int .i64 0) := (blk_cell BK80124.out 0).trans rfl; have hcz47_1 : w45.cell? ⟨gb80124, 1, none⟩ = some (.int .i64 0) := (blk_cell BK80124.out 1).trans rfl; have hcz47_2 : w45.cell? ⟨gb80124, 2, none⟩ = some (.int .i64 0) := (blk_cell BK80124.out 2).trans rfl; have hfz47_0 := blk_frozen BK80124.out 0; have hfz47_1 := blk_frozen BK80124.out 1; have hfz47_2 := blk_frozen BK80124.out 2; have hcz48_0 : w45.cell? ⟨gb80106, 0, none⟩ = some (.int .i64 t80103) := (blk_cell BK80106.out 0).trans rfl; have hcz48_1 : w45.cell? ⟨gb80106, 1, none⟩ = some (.int .i64 t80104) := (blk_cell BK80106.out 1).trans rfl; have hcz48_2 : w45.cell? ⟨gb80106, 2, none⟩ = some (.int .i64 t80105) := (blk_cell BK80106.out 2).trans rfl; have hfz48_0 := blk_frozen BK80106.out 0; have hfz48_1 := blk_frozen BK80106.out 1; have hfz48_2 := blk_frozen BK80106.out 2)); try go_wp2_with (first | (go_at_call 21; (with_reducible refine (cal_ParseDate.calls (rdOf ByteArray.empty t80107 x12_2) t80119 t80120 t80121 t80122 t80123 _ ?side1 A21.out).mono ?_); (case side1 => refine GlobOk.below HG.out ?_; repeat (first | (with_reducible first | exact HB.out | apply below_alloc | apply pw_below_drewN | apply below_drew1 | refine below_set ?_ GE80106.out) | exact HB.out)); rintro e w44 ⟨rfl, hb⟩; have n0_ := Aside0.mk (Kd.R_below (by (with_reducible repeat (first | apply Kd.R_alloc | apply Kd.R_drewN | apply Kd.R_drew)); exact HO_8.out) hb); have n1_ := Aside0.mk (Kd.R_below (by (with_reducible repeat (first | apply Kd.R_alloc | apply Kd.R_drewN | apply Kd.R_drew)); exact HO_10.out) hb); have n2_ := Aside0.mk (blk_below (g := gb80106) (o := .cells #[.int .i64 t80103, .int .i64 t80104, .int .i64 t80105] 23 (0, 0)) (by (with_reducible repeat (first | refine blk_drewN ?_ _ | refine blk_drew ?_ | refine blk_alloc ?_ _)); exact BK80106.out) hb); have n3_ := Aside0.mk (below_step (by repeat (first | (with_reducible first | exact HB.out | apply below_alloc | apply pw_below_drewN | apply below_drew1 | refine below_set ?_ GE80106.out) | exact HB.out)) hb); clear HO_8; clear HO_10; clear BK80106; clear HB; have HO_8 := n0_; have HO_10 := n1_; have BK80106 := n2_; have HB := n3_; clear n0_ n1_ n2_ n3_; (try clear hb); (try clear hb2); (try clear hk); (try clear hi)) | ((with_reducible refine gate_dst (N := 13) rfl ?_); refine box_event ?hg (N := 13) ?hd (cs := #[.int .i64 0, .int .i64 0, .int .i64 0]) (t := 23) ?hr ?_; (case hd => rfl); (case hg => rfl); (case hr => first | (go_simp; done) | (go_simp; rfl)); intro gb80124 hg w45 hbox hb; have n0_ := Aside0.mk (Kd.R_below (by (with_reducible repeat (first | apply Kd.R_alloc | apply Kd.R_drewN | apply Kd.R_drew)); exact HO_8.out) hb); have n1_ := Aside0.mk (Kd.R_below (by (with_reducible repeat (first | apply Kd.R_alloc | apply Kd.R_drewN | apply Kd.R_drew)); exact HO_10.out) hb); have n2_ := Aside0.mk (blk_below (g := gb80106) (o := .cells #[.int .i64 t80103, .int .i64 t80104, .int .i64 t80105] 23 (0, 0)) (by (with_reducible repeat (first | refine blk_drewN ?_ _ | refine blk_drew ?_ | refine blk_alloc ?_ _)); exact BK80106.out) hb); have n3_ := Aside0.mk (below_step (by repeat (first | (with_reducible first | exact HB.out | apply below_alloc | apply pw_below_drewN | apply below_drew1 | refine below_set ?_ GE80106.out) | exact HB.out)) hb); have n4_ := Aside0.mk (hbox); have n5_ := Aside0.mk ((by rw [hg]; exact (below_size (by repeat (first | (with_reducible first | exact HB.out | apply below_alloc | apply pw_below_drewN | apply below_drew1 | refine below_set ?_ GE80106.out) | exact HB.out))) : w.heap.size ≤ gb80124)); have n6_ := Aside0.mk ((by rw [hg]; exact (below_size (by repeat (first | (with_reducible first | exact HB.out | apply below_alloc | apply pw_below_drewN | apply below_drew1 | refine below_set ?_ GE80106.out) | exact HB.out))) : w.heap.size ≤ gb80124)); have n7_ := Aside0.mk ((by rw [hg]; exact Nat.ne_of_lt (blk_lt (g := gb80106) (o := .cells #[.int .i64 t80103, .int .i64 t80104, .int .i64 t80105] 23 (0, 0)) (by (with_reducible repeat (first | refine blk_drewN ?_ _ | refine blk_drew ?_ | refine blk_alloc ?_ _)); exact BK80106.out)) : gb80106 ≠ gb80124)); have n8_ := Aside0.mk ((by rw [hg]; exact Nat.ne_of_gt (blk_lt (g := gb80106) (o := .cells #[.int .i64 t80103, .int .i64 t80104, .int .i64 t80105] 23 (0, 0)) (by (with_reducible repeat (first | refine blk_drewN ?_ _ | refine blk_drew ?_ | refine blk_alloc ?_ _)); exact BK80106.out)) : gb80124 ≠ gb80106)); clear HO_8; clear HO_10; clear BK80106; clear HB; have HO_8 := n0_; have HO_10 := n1_; have BK80106 := n2_; have HB := n3_; have BK80124 := n4_; have GW80124 := n5_; have GE80124 := n6_; have NB80106_80124 := n7_; have NB80124_80106 := n8_; clear n0_ n1_ n2_ n3_ n4_ n5_ n6_ n7_ n8_; clear hb hbox hg; have hnb46 := NB80124_80106.out; have hnc46 := NB80106_80124.out; have hcz47_0 : w45.cell? ⟨gb80124, 0, none⟩ = some (.int .i64 0) := (blk_cell BK80124.out 0).trans rfl; have hcz47_1 : w45.cell? ⟨gb80124, 1, none⟩ = some (.int .i64 0) := (blk_cell BK80124.out 1).trans rfl; have hcz47_2 : w45.cell? ⟨gb80124, 2, none⟩ = some (.int .i64 0) := (blk_cell BK80124.out 2).trans rfl; have hfz47_0 := blk_frozen BK80124.out 0; have hfz47_1 := blk_frozen BK80124.out 1; have hfz47_2 := blk_frozen BK80124.out 2; have hcz48_0 : w45.cell? ⟨gb80106, 0, none⟩ = some (.int .i64 t80103) := (blk_cell BK80106.out 0).trans rfl; have hcz48_1 : w45.cell? ⟨gb80106, 1, none⟩ = some (.int .i64 t80104) := (blk_cell BK80106.out 1).trans rfl; have hcz48_2 : w45.cell? ⟨gb80106, 2, none⟩ = some (.int .i64 t80105) := (blk_cell BK80106.out 2).trans rfl; have hfz48_0 := blk_frozen BK80106.out 0; have hfz48_1 := blk_frozen BK80106.out 1; have hfz48_2 := blk_frozen BK80106.out 2)))
                      go_ret
                      exact ⟨by first | rfl | (simp [errW_none, errW_some] <;> rfl) | (simp [*, errW_none, errW_some] <;> rfl), by repeat (first | (with_reducible first | exact HB.out | apply below_alloc | apply pw_below_drewN | apply below_drew1 | refine below_set ?_ GE80106.out | refine below_set ?_ GE80124.out) | exact HB.out)⟩
                · rw [if_neg c20] at H
                  exact absurd H (by simp)
              · rw [if_neg c19] at H
                exact absurd H (by simp)
            · rw [if_neg c18] at H
              have c18b0 : decide (x12_2 < 6) = false := decide_eq_false c18
              clear c18
              have HC49 := Aside0.mk H
              clear H
              go_upto_region 14 with (fail)
              repeat (go_quiet (fail); go_upto_region 14 with (fail))
              go_cut [84] (fun v84 wc => ∃ (kq : Nat) (x84_48 : Bool), v84 = .bool x84_48 ∧ Aside0 (larderlaw03_CalRound.j2 kq t80101 t80102 t80107 t80114 x84_48 = some r) ∧ Aside0 (kq ≤ k2) ∧ Aside0 (Kd.R Kd.string 9 wc w.heap.size (fun k_ => some k_ ≠ (v80115 : Value).ownBlock) v80108 t80107) ∧ Aside0 (Kd.R Kd.string 9 wc w.heap.size (fun k_ => some k_ ≠ (v80108 : Value).ownBlock) v80115 t80114) ∧ Aside0 (wc.heap[gb80106]? = some (.cells #[.int .i64 t80103, .int .i64 t80104, .int .i64 t80105] 23 (0, 0))) ∧ Aside0 (Below w.heap.size w wc))
              case first =>
                have H := HC49.out
                clear HC49
                by_cases c50 : 0 < (t80107.length : Int)
                · rw [if_pos c50] at H
                  have c50b0 : decide (0 < (t80107.length : Int)) = true := decide_eq_true c50
                  have c50b1 : decide (0 < t80107.length) = true := decide_eq_true (by omega)
                  clear c50
                  (first | rw [c50b0] | (simp only [i64_w, i32_w]; rw [c50b0]) | skip)
                  by_cases c51 : ((rdOf ByteArray.empty t80107 0).size : Int) = 10
                  · rw [if_pos c51] at H
                    have c51b0 : (((rdOf ByteArray.empty t80107 0).size : Int) == 10) = true := beq_iff_eq.mpr c51
                    have c51b1 : (((rdOf ByteArray.empty t80107 0).size : Int) != 10) = false := bne_eq_false_iff_eq.mpr c51
                    clear c51
                    by_cases c52 : 2 < (t80107.length : Int)
                    · rw [if_pos c52] at H
                      have c52b0 : decide (2 < (t80107.length : Int)) = true := decide_eq_true c52
                      have c52b1 : decide (2 < t80107.length) = true := decide_eq_true (by omega)
                      clear c52
                      by_cases c53 : ((rdOf ByteArray.empty t80107 2).size : Int) = 8
                      · rw [if_pos c53] at H
                        have c53b0 : (((rdOf ByteArray.empty t80107 2).size : Int) == 8) = true := beq_iff_eq.mpr c53
                        have c53b1 : (((rdOf ByteArray.empty t80107 2).size : Int) != 8) = false := bne_eq_false_iff_eq.mpr c53
                        clear c53
                        by_cases c54 : 4 < (t80107.length : Int)
                        · rw [if_pos c54] at H
                          have c54b0 : decide (4 < (t80107.length : Int)) = true := decide_eq_true c54
                          have c54b1 : decide (4 < t80107.length) = true := decide_eq_true (by omega)
                          clear c54
                          have H' := Aside0.mk H
                          clear H
                          obtain ⟨Ao55, co55, eo55⟩ := Kd.R_slice HO_8.out
                          subst eo55
                          have p80125 : 0 ≤ (0 : Int) := (by omega)
                          have q80125 : 0 < (t80107.length : Int) := of_decide_eq_true (by first | (with_reducible assumption) | assumption)
                          obtain ⟨ad80125, e80125, hx80125_0⟩ := Kd.at_string (Kd.R_reads' HO_8.out).2.2 0 p80125 q80125
                          cases e80125
                          have qi80125 : (0 < t80107.length) = True := eq_true (by omega)
                          (try rw [show ((0 : Int)).toNat = 0 from rfl] at hx80125_0)
                          (try rw [Addr.add_zero'] at hx80125_0)
                          replace p80125 := eq_true p80125
                          replace q80125 := eq_true q80125
                          have p80126 : 0 ≤ (2 : Int) := (by omega)
                          have q80126 : 2 < (t80107.length : Int) := of_decide_eq_true (by first | (with_reducible assumption) | assumption)
                          obtain ⟨ad80126, e80126, hx80126_0⟩ := Kd.at_string (Kd.R_reads' HO_8.out).2.2 2 p80126 q80126
                          obtain rfl : ad80125 = ad80126 := (by injection e80126)
                          (try simp only [show (2 : Int).toNat = 2 from rfl, Nat.reduceMul, Nat.reduceEqDiff, Go.Addr.add, ↓reduceIte] at hx80126_0)
                          have qi80126 : (2 < t80107.length) = True := eq_true (by omega)
                          (try rw [show ((2 : Int)).toNat = 2 from rfl] at hx80126_0)
                          replace p80126 := eq_true p80126
                          replace q80126 := eq_true q80126
                          have p80127 : 0 ≤ (4 : Int) := (by omega)
                          have q80127 : 4 < (t80107.length : Int) := of_decide_eq_true (by first | (with_reducible assumption) | assumption)
                          obtain ⟨ad80127, e80127, hx80127_0⟩ := Kd.at_string (Kd.R_reads' HO_8.out).2.2 4 p80127 q80127
                          obtain rfl : ad80125 = ad80127 := (by injection e80127)
                          (try simp only [show (4 : Int).toNat = 4 from rfl, Nat.reduceMul, Nat.reduceEqDiff, Go.Addr.add, ↓reduceIte] at hx80127_0)
                          have qi80127 : (4 < t80107.length) = True := eq_true (by omega)
                          (try rw [show ((4 : Int)).toNat = 4 from rfl] at hx80127_0)
                          replace p80127 := eq_true p80127
                          replace q80127 := eq_true q80127
                          go_wp2
                          repeat (go_quiet (fail); try go_wp2)
                          go_meet
                          case rel => exact ⟨_, ((((rdOf ByteArray.empty t80107 4).size : Int) != 10)), (by first | rfl | (simp; done) | (simp [*]; done)), H', ⟨by have := HJ8.out; have := HK2.out; first | omega | exact Nat.le_refl _⟩, ⟨by (with_reducible repeat (first | apply Kd.R_alloc | apply Kd.R_drewN | apply Kd.R_drew)); exact HO_8.out⟩, ⟨by (with_reducible repeat (first | apply Kd.R_alloc | apply Kd.R_drewN | apply Kd.R_drew)); exact HO_10.out⟩, ⟨by (with_reducible repeat (first | refine blk_drewN ?_ _ | refine blk_drew ?_ | refine blk_alloc ?_ _)); exact BK80106.out⟩, ⟨by repeat (first | (with_reducible first | exact HB.out | apply below_alloc | apply pw_below_drewN | apply below_drew1 | refine below_set ?_ GE80106.out) | exact HB.out)⟩⟩
                        · rw [if_neg c54] at H
                          exact absurd H (by simp)
                      · rw [if_neg c53] at H
                        have c53b0 : (((rdOf ByteArray.empty t80107 2).size : Int) == 8) = false := beq_eq_false_iff_ne.mpr c53
                        have c53b1 : (((rdOf ByteArray.empty t80107 2).size : Int) != 8) = true := bne_iff_ne.mpr c53
                        have H' := Aside0.mk H
                        clear H
                        obtain ⟨Ao56, co56, eo56⟩ := Kd.R_slice HO_8.out
                        subst eo56
                        have p80125 : 0 ≤ (0 : Int) := (by omega)
                        have q80125 : 0 < (t80107.length : Int) := of_decide_eq_true (by first | (with_reducible assumption) | assumption)
                        obtain ⟨ad80125, e80125, hx80125_0⟩ := Kd.at_string (Kd.R_reads' HO_8.out).2.2 0 p80125 q80125
                        cases e80125
                        have qi80125 : (0 < t80107.length) = True := eq_true (by omega)
                        (try rw [show ((0 : Int)).toNat = 0 from rfl] at hx80125_0)
                        (try rw [Addr.add_zero'] at hx80125_0)
                        replace p80125 := eq_true p80125
                        replace q80125 := eq_true q80125
                        have p80126 : 0 ≤ (2 : Int) := (by omega)
                        have q80126 : 2 < (t80107.length : Int) := of_decide_eq_true (by first | (with_reducible assumption) | assumption)
                        obtain ⟨ad80126, e80126, hx80126_0⟩ := Kd.at_string (Kd.R_reads' HO_8.out).2.2 2 p80126 q80126
                        obtain rfl : ad80125 = ad80126 := (by injection e80126)
                        (try simp only [show (2 : Int).toNat = 2 from rfl, Nat.reduceMul, Nat.reduceEqDiff, Go.Addr.add, ↓reduceIte] at hx80126_0)
                        have qi80126 : (2 < t80107.length) = True := eq_true (by omega)
                        (try rw [show ((2 : Int)).toNat = 2 from rfl] at hx80126_0)
                        replace p80126 := eq_true p80126
                        replace q80126 := eq_true q80126
                        go_wp2
                        repeat (go_quiet (fail); try go_wp2)
                        go_meet
                        case rel => exact ⟨_, (true), (by first | rfl | (simp; done) | (simp [*]; done)), H', ⟨by have := HJ8.out; have := HK2.out; first | omega | exact Nat.le_refl _⟩, ⟨by (with_reducible repeat (first | apply Kd.R_alloc | apply Kd.R_drewN | apply Kd.R_drew)); exact HO_8.out⟩, ⟨by (with_reducible repeat (first | apply Kd.R_alloc | apply Kd.R_drewN | apply Kd.R_drew)); exact HO_10.out⟩, ⟨by (with_reducible repeat (first | refine blk_drewN ?_ _ | refine blk_drew ?_ | refine blk_alloc ?_ _)); exact BK80106.out⟩, ⟨by repeat (first | (with_reducible first | exact HB.out | apply below_alloc | apply pw_below_drewN | apply below_drew1 | refine below_set ?_ GE80106.out) | exact HB.out)⟩⟩
                    · rw [if_neg c52] at H
                      exact absurd H (by simp)
                  · rw [if_neg c51] at H
                    have c51b0 : (((rdOf ByteArray.empty t80107 0).size : Int) == 10) = false := beq_eq_false_iff_ne.mpr c51
                    have c51b1 : (((rdOf ByteArray.empty t80107 0).size : Int) != 10) = true := bne_iff_ne.mpr c51
                    have H' := Aside0.mk H
                    clear H
                    obtain ⟨Ao57, co57, eo57⟩ := Kd.R_slice HO_8.out
                    subst eo57
                    have p80125 : 0 ≤ (0 : Int) := (by omega)
                    have q80125 : 0 < (t80107.length : Int) := of_decide_eq_true (by first | (with_reducible assumption) | assumption)
                    obtain ⟨ad80125, e80125, hx80125_0⟩ := Kd.at_string (Kd.R_reads' HO_8.out).2.2 0 p80125 q80125
                    cases e80125
                    have qi80125 : (0 < t80107.length) = True := eq_true (by omega)
                    (try rw [show ((0 : Int)).toNat = 0 from rfl] at hx80125_0)
                    (try rw [Addr.add_zero'] at hx80125_0)
                    replace p80125 := eq_true p80125
                    replace q80125 := eq_true q80125
                    go_wp2
                    repeat (go_quiet (fail); try go_wp2)
                    go_meet
                    case rel => exact ⟨_, (true), (by first | rfl | (simp; done) | (simp [*]; done)), H', ⟨by have := HJ8.out; have := HK2.out; first | omega | exact Nat.le_refl _⟩, ⟨by (with_reducible repeat (first | apply Kd.R_alloc | apply Kd.R_drewN | apply Kd.R_drew)); exact HO_8.out⟩, ⟨by (with_reducible repeat (first | apply Kd.R_alloc | apply Kd.R_drewN | apply Kd.R_drew)); exact HO_10.out⟩, ⟨by (with_reducible repeat (first | refine blk_drewN ?_ _ | refine blk_drew ?_ | refine blk_alloc ?_ _)); exact BK80106.out⟩, ⟨by repeat (first | (with_reducible first | exact HB.out | apply below_alloc | apply pw_below_drewN | apply below_drew1 | refine below_set ?_ GE80106.out) | exact HB.out)⟩⟩
                · rw [if_neg c50] at H
                  exact absurd H (by simp)
              case rest =>
                clear HC49
                try clear c1
                try clear c2
                try clear p2
                try clear c3
                try clear c4
                try clear c5
                try clear p6
                try clear c8
                try clear p8
                try clear q8
                try clear hx8
                try clear qi8
                try clear c16
                try clear c17
                try clear c18
                try clear c18b0
                try clear c19
                try clear c19b0
                try clear c20
                try clear c20b0
                try clear c22
                try clear c22b0
                try clear c26
                try clear c29
                try clear c29b0
                try clear c29b1
                try clear c30
                try clear c30b0
                try clear c30b1
                try clear c34
                try clear c40
                try clear c46
                try clear c50
                try clear c50b0
                try clear c50b1
                try clear c51
                try clear c51b0
                try clear c51b1
                try clear c52
                try clear c52b0
                try clear c52b1
                try clear c53
                try clear c53b0
                try clear c53b1
                try clear c54
                try clear c54b0
                try clear c54b1
                try clear hcz12_0
                try clear hcz12_1
                try clear hcz12_2
                try clear hcz27_0
                try clear hcz27_1
                try clear hcz27_2
                try clear hcz28_0
                try clear hcz28_1
                try clear hcz28_2
                try clear hcz35_0
                try clear hcz35_1
                try clear hcz35_2
                try clear hcz36_0
                try clear hcz36_1
                try clear hcz36_2
                try clear hcz41_0
                try clear hcz41_1
                try clear hcz41_2
                try clear hcz42_0
                try clear hcz42_1
                try clear hcz42_2
                try clear hcz47_0
                try clear hcz47_1
                try clear hcz47_2
                try clear hcz48_0
                try clear hcz48_1
                try clear hcz48_2
                try clear hfz12_0
                try clear hfz12_1
                try clear hfz12_2
                try clear hfz27_0
                try clear hfz27_1
                try clear hfz27_2
                try clear hfz28_0
                try clear hfz28_1
                try clear hfz28_2
                try clear hfz35_0
                try clear hfz35_1
                try clear hfz35_2
                try clear hfz36_0
                try clear hfz36_1
                try clear hfz36_2
                try clear hfz41_0
                try clear hfz41_1
                try clear hfz41_2
                try clear hfz42_0
                try clear hfz42_1
                try clear hfz42_2
                try clear hfz47_0
                try clear hfz47_1
                try clear hfz47_2
                try clear hfz48_0
                try clear hfz48_1
                try clear hfz48_2
                try clear hx80118_0
                try clear hx80125_0
                try clear hx80126_0
                try clear hx80127_0
                try clear p2
                try clear p80118
                try clear p80125
                try clear p80126
                try clear p80127
                try clear q80118
                try clear q80125
                try clear q80126
                try clear q80127
                obtain ⟨kq, x84_48, rfl, HA, HJ48, HO_8, HO_10, BK80106, HB⟩ := hcut
                cases kq with
                | zero => exact absurd HA.out (by simp [larderlaw03_CalRound.j2])
                | succ kj48 =>
                  have H := HA.out
                  clear HA
                  simp only [larderlaw03_CalRound.j2] at H
                  by_cases c58 : x84_48 = true
                  · subst c58
                    have H1 : (some false) = some r := by rw [if_pos rfl] at H; exact H
                    clear H
                    have H := H1
                    clear H1
                    obtain rfl := Option.some.inj H
                    go_wp2
                    repeat (go_quiet (fail); try go_wp2)
                    go_ret
                    exact ⟨by first | rfl | (simp [errW_none, errW_some] <;> rfl) | (simp [*, errW_none, errW_some] <;> rfl), by repeat (first | (with_reducible first | exact HB.out | apply below_alloc | apply pw_below_drewN | apply below_drew1 | refine below_set ?_ GE80106.out) | exact HB.out)⟩
                  · replace c58 := Bool.eq_false_iff.mpr c58
                    subst c58
                    have H1 : (if 0 < (t80107.length : Int) then (if 0 ≤ 4 then (if 4 ≤ ((rdOf ByteArray.empty t80107 0).size : Int) then (if 5 ≤ 7 then (if 7 ≤ ((rdOf ByteArray.empty t80107 0).size : Int) then (if ((rdOf ByteArray.empty t80107 0).extract 0 4).size + ((rdOf ByteArray.empty t80107 0).extract 5 7).size ≤ 9223372036854775807 then (if 8 ≤ ((rdOf ByteArray.empty t80107 0).size : Int) then (if ((rdOf ByteArray.empty t80107 0).extract 0 4).size + ((rdOf ByteArray.empty t80107 0).extract 5 7).size + ((rdOf ByteArray.empty t80107 0).extract 8 (rdOf ByteArray.empty t80107 0).size).size ≤ 9223372036854775807 then (if 2 < (t80107.length : Int) then (if 4 ≤ ((rdOf ByteArray.empty t80107 2).size : Int) then (if 5 ≤ ((rdOf ByteArray.empty t80107 2).size : Int) then (if ((rdOf ByteArray.empty t80107 2).extract 0 4).size + ((rdOf ByteArray.empty t80107 2).extract 5 (rdOf ByteArray.empty t80107 2).size).size ≤ 9223372036854775807 then (if 4 < (t80107.length : Int) then (if 4 ≤ ((rdOf ByteArray.empty t80107 4).size : Int) then (if 5 ≤ 8 then (if 8 ≤ ((rdOf ByteArray.empty t80107 4).size : Int) then (if ((rdOf ByteArray.empty t80107 4).extract 0 4).size + ((rdOf ByteArray.empty t80107 4).extract 5 8).size ≤ 9223372036854775807 then (if 9 ≤ ((rdOf ByteArray.empty t80107 4).size : Int) then (if ((rdOf ByteArray.empty t80107 4).extract 0 4).size + ((rdOf ByteArray.empty t80107 4).extract 5 8).size + ((rdOf ByteArray.empty t80107 4).extract 9 (rdOf ByteArray.empty t80107 4).size).size ≤ 9223372036854775807 then (if 1 < (t80107.length : Int) then (if (rdOf ByteArray.empty t80107 1).toList = ((((rdOf ByteArray.empty t80107 0).extract 0 4) ++ ((rdOf ByteArray.empty t80107 0).extract 5 7)) ++ ((rdOf ByteArray.empty t80107 0).extract 8 (rdOf ByteArray.empty t80107 0).size)).toList then (if 3 < (t80107.length : Int) then (if (rdOf ByteArray.empty t80107 3).toList = (((rdOf ByteArray.empty t80107 2).extract 0 4) ++ ((rdOf ByteArray.empty t80107 2).extract 5 (rdOf ByteArray.empty t80107 2).size)).toList then (if 5 < (t80107.length : Int) then (if (rdOf ByteArray.empty t80107 5).toList = ((((rdOf ByteArray.empty t80107 4).extract 0 4) ++ ((rdOf ByteArray.empty t80107 4).extract 5 8)) ++ ((rdOf ByteArray.empty t80107 4).extract 9 (rdOf ByteArray.empty t80107 4).size)).toList then (if 0 < (t80114.length : Int) then (if ((Op.bytesLess ((rdOf ByteArray.empty t80107 0).toList) ((rdOf ByteArray.empty t80114 0).toList)) == (decide (t80101 < t80102))) = true then (if 1 < (t80114.length : Int) then (if ((Op.bytesLess ((rdOf ByteArray.empty t80107 1).toList) ((rdOf ByteArray.empty t80114 1).toList)) == (decide (t80101 < t80102))) = true then (if 2 < (t80114.length : Int) then (if ((Op.bytesLess ((rdOf ByteArray.empty t80107 2).toList) ((rdOf ByteArray.empty t80114 2).toList)) == (decide (t80101 < t80102))) = true then (if 4 < (t80114.length : Int) then (some ((Op.bytesLess ((rdOf ByteArray.empty t80107 4).toList) ((rdOf ByteArray.empty t80114 4).toList)) == (decide (t80101 < t80102)))) else (none)) else (some false)) else (none)) else (some false)) else (none)) else (some false)) else (none)) else (some false)) else (none)) else (some false)) else (none)) else (some false)) else (none)) else (none)) else (none)) else (none)) else (none)) else (none)) else (none)) else (none)) else (none)) else (none)) else (none)) else (none)) else (none)) else (none)) else (none)) else (none)) else (none)) else (none)) else (none)) else (none)) = some r := by rw [if_neg (show ¬ (false = true) by decide)] at H; exact H
                    clear H
                    have H := H1
                    clear H1
                    by_cases c59 : 0 < (t80107.length : Int)
                    · rw [if_pos c59] at H
                      have c59b0 : decide (0 < (t80107.length : Int)) = true := decide_eq_true c59
                      have c59b1 : decide (0 < t80107.length) = true := decide_eq_true (by omega)
                      clear c59
                      by_cases c60 : 0 ≤ 4
                      · rw [if_pos c60] at H
                        have c60b0 := eq_true c60
                        have c60b1 : decide (0 ≤ 4) = true := decide_eq_true c60
                        clear c60
                        by_cases c61 : 4 ≤ ((rdOf ByteArray.empty t80107 0).size : Int)
                        · rw [if_pos c61] at H
                          have c61b0 := eq_true c61
                          have c61b1 : decide (4 ≤ ((rdOf ByteArray.empty t80107 0).size : Int)) = true := decide_eq_true c61
                          clear c61
                          by_cases c62 : 5 ≤ 7
                          · rw [if_pos c62] at H
                            have c62b0 := eq_true c62
                            have c62b1 : decide (5 ≤ 7) = true := decide_eq_true c62
                            clear c62
                            by_cases c63 : 7 ≤ ((rdOf ByteArray.empty t80107 0).size : Int)
                            · rw [if_pos c63] at H
                              have c63b0 := eq_true c63
                              have c63b1 : decide (7 ≤ ((rdOf ByteArray.empty t80107 0).size : Int)) = true := decide_eq_true c63
                              clear c63
                              by_cases c64 : ((rdOf ByteArray.empty t80107 0).extract 0 4).size + ((rdOf ByteArray.empty t80107 0).extract 5 7).size ≤ 9223372036854775807
                              · rw [if_pos c64] at H
                                have c64b0 := eq_true c64
                                have c64b1 : decide (((rdOf ByteArray.empty t80107 0).extract 0 4).size + ((rdOf ByteArray.empty t80107 0).extract 5 7).size ≤ 9223372036854775807) = true := decide_eq_true c64
                                try have c64b2 : (9223372036854775807 < ((rdOf ByteArray.empty t80107 0).extract 0 4).size + ((rdOf ByteArray.empty t80107 0).extract 5 7).size) = False := eq_false (Nat.not_lt.2 c64)
                                try have c64b3 : (9223372036854775807 < min 4 (rdOf ByteArray.empty t80107 0).size + (min 7 (rdOf ByteArray.empty t80107 0).size - 5)) = False := eq_false (by have h_ := c64; simp only [ByteArray.size_extract] at h_; omega)
                                by_cases c65 : 8 ≤ ((rdOf ByteArray.empty t80107 0).size : Int)
                                · rw [if_pos c65] at H
                                  have c65b0 := eq_true c65
                                  have c65b1 : decide (8 ≤ ((rdOf ByteArray.empty t80107 0).size : Int)) = true := decide_eq_true c65
                                  clear c65
                                  by_cases c66 : ((rdOf ByteArray.empty t80107 0).extract 0 4).size + ((rdOf ByteArray.empty t80107 0).extract 5 7).size + ((rdOf ByteArray.empty t80107 0).extract 8 (rdOf ByteArray.empty t80107 0).size).size ≤ 9223372036854775807
                                  · rw [if_pos c66] at H
                                    have c66b0 := eq_true c66
                                    have c66b1 : decide (((rdOf ByteArray.empty t80107 0).extract 0 4).size + ((rdOf ByteArray.empty t80107 0).extract 5 7).size + ((rdOf ByteArray.empty t80107 0).extract 8 (rdOf ByteArray.empty t80107 0).size).size ≤ 9223372036854775807) = true := decide_eq_true c66
                                    try have c66b2 : (9223372036854775807 < ((rdOf ByteArray.empty t80107 0).extract 0 4).size + ((rdOf ByteArray.empty t80107 0).extract 5 7).size + ((rdOf ByteArray.empty t80107 0).extract 8 (rdOf ByteArray.empty t80107 0).size).size) = False := eq_false (Nat.not_lt.2 c66)
                                    try have c66b3 : (9223372036854775807 < min 4 (rdOf ByteArray.empty t80107 0).size + (min 7 (rdOf ByteArray.empty t80107 0).size - 5) + ((rdOf ByteArray.empty t80107 0).size - 8)) = False := eq_false (by have h_ := c66; simp only [ByteArray.size_extract] at h_; omega)
                                    by_cases c67 : 2 < (t80107.length : Int)
                                    · rw [if_pos c67] at H
                                      have c67b0 : decide (2 < (t80107.length : Int)) = true := decide_eq_true c67
                                      have c67b1 : decide (2 < t80107.length) = true := decide_eq_true (by omega)
                                      clear c67
                                      have c68b0 := eq_true (of_decide_eq_true (by first | (with_reducible assumption) | assumption) : 0 ≤ 4)
                                      by_cases c69 : 4 ≤ ((rdOf ByteArray.empty t80107 2).size : Int)
                                      · rw [if_pos c69] at H
                                        have c69b0 := eq_true c69
                                        have c69b1 : decide (4 ≤ ((rdOf ByteArray.empty t80107 2).size : Int)) = true := decide_eq_true c69
                                        clear c69
                                        by_cases c70 : 5 ≤ ((rdOf ByteArray.empty t80107 2).size : Int)
                                        · rw [if_pos c70] at H
                                          have c70b0 := eq_true c70
                                          have c70b1 : decide (5 ≤ ((rdOf ByteArray.empty t80107 2).size : Int)) = true := decide_eq_true c70
                                          clear c70
                                          by_cases c71 : ((rdOf ByteArray.empty t80107 2).extract 0 4).size + ((rdOf ByteArray.empty t80107 2).extract 5 (rdOf ByteArray.empty t80107 2).size).size ≤ 9223372036854775807
                                          · rw [if_pos c71] at H
                                            have c71b0 := eq_true c71
                                            have c71b1 : decide (((rdOf ByteArray.empty t80107 2).extract 0 4).size + ((rdOf ByteArray.empty t80107 2).extract 5 (rdOf ByteArray.empty t80107 2).size).size ≤ 9223372036854775807) = true := decide_eq_true c71
                                            try have c71b2 : (9223372036854775807 < ((rdOf ByteArray.empty t80107 2).extract 0 4).size + ((rdOf ByteArray.empty t80107 2).extract 5 (rdOf ByteArray.empty t80107 2).size).size) = False := eq_false (Nat.not_lt.2 c71)
                                            try have c71b3 : (9223372036854775807 < min 4 (rdOf ByteArray.empty t80107 2).size + ((rdOf ByteArray.empty t80107 2).size - 5)) = False := eq_false (by have h_ := c71; simp only [ByteArray.size_extract] at h_; omega)
                                            by_cases c72 : 4 < (t80107.length : Int)
                                            · rw [if_pos c72] at H
                                              have c72b0 : decide (4 < (t80107.length : Int)) = true := decide_eq_true c72
                                              have c72b1 : decide (4 < t80107.length) = true := decide_eq_true (by omega)
                                              clear c72
                                              have c73b0 := eq_true (of_decide_eq_true (by first | (with_reducible assumption) | assumption) : 0 ≤ 4)
                                              by_cases c74 : 4 ≤ ((rdOf ByteArray.empty t80107 4).size : Int)
                                              · rw [if_pos c74] at H
                                                have c74b0 := eq_true c74
                                                have c74b1 : decide (4 ≤ ((rdOf ByteArray.empty t80107 4).size : Int)) = true := decide_eq_true c74
                                                clear c74
                                                by_cases c75 : 5 ≤ 8
                                                · rw [if_pos c75] at H
                                                  have c75b0 := eq_true c75
                                                  have c75b1 : decide (5 ≤ 8) = true := decide_eq_true c75
                                                  clear c75
                                                  by_cases c76 : 8 ≤ ((rdOf ByteArray.empty t80107 4).size : Int)
                                                  · rw [if_pos c76] at H
                                                    have c76b0 := eq_true c76
                                                    have c76b1 : decide (8 ≤ ((rdOf ByteArray.empty t80107 4).size : Int)) = true := decide_eq_true c76
                                                    clear c76
                                                    by_cases c77 : ((rdOf ByteArray.empty t80107 4).extract 0 4).size + ((rdOf ByteArray.empty t80107 4).extract 5 8).size ≤ 9223372036854775807
                                                    · rw [if_pos c77] at H
                                                      have c77b0 := eq_true c77
                                                      have c77b1 : decide (((rdOf ByteArray.empty t80107 4).extract 0 4).size + ((rdOf ByteArray.empty t80107 4).extract 5 8).size ≤ 9223372036854775807) = true := decide_eq_true c77
                                                      try have c77b2 : (9223372036854775807 < ((rdOf ByteArray.empty t80107 4).extract 0 4).size + ((rdOf ByteArray.empty t80107 4).extract 5 8).size) = False := eq_false (Nat.not_lt.2 c77)
                                                      try have c77b3 : (9223372036854775807 < min 4 (rdOf ByteArray.empty t80107 4).size + (min 8 (rdOf ByteArray.empty t80107 4).size - 5)) = False := eq_false (by have h_ := c77; simp only [ByteArray.size_extract] at h_; omega)
                                                      by_cases c78 : 9 ≤ ((rdOf ByteArray.empty t80107 4).size : Int)
                                                      · rw [if_pos c78] at H
                                                        have c78b0 := eq_true c78
                                                        have c78b1 : decide (9 ≤ ((rdOf ByteArray.empty t80107 4).size : Int)) = true := decide_eq_true c78
                                                        clear c78
                                                        by_cases c79 : ((rdOf ByteArray.empty t80107 4).extract 0 4).size + ((rdOf ByteArray.empty t80107 4).extract 5 8).size + ((rdOf ByteArray.empty t80107 4).extract 9 (rdOf ByteArray.empty t80107 4).size).size ≤ 9223372036854775807
                                                        · rw [if_pos c79] at H
                                                          have c79b0 := eq_true c79
                                                          have c79b1 : decide (((rdOf ByteArray.empty t80107 4).extract 0 4).size + ((rdOf ByteArray.empty t80107 4).extract 5 8).size + ((rdOf ByteArray.empty t80107 4).extract 9 (rdOf ByteArray.empty t80107 4).size).size ≤ 9223372036854775807) = true := decide_eq_true c79
                                                          try have c79b2 : (9223372036854775807 < ((rdOf ByteArray.empty t80107 4).extract 0 4).size + ((rdOf ByteArray.empty t80107 4).extract 5 8).size + ((rdOf ByteArray.empty t80107 4).extract 9 (rdOf ByteArray.empty t80107 4).size).size) = False := eq_false (Nat.not_lt.2 c79)
                                                          try have c79b3 : (9223372036854775807 < min 4 (rdOf ByteArray.empty t80107 4).size + (min 8 (rdOf ByteArray.empty t80107 4).size - 5) + ((rdOf ByteArray.empty t80107 4).size - 9)) = False := eq_false (by have h_ := c79; simp only [ByteArray.size_extract] at h_; omega)
                                                          by_cases c80 : 1 < (t80107.length : Int)
                                                          · rw [if_pos c80] at H
                                                            have c80b0 : decide (1 < (t80107.length : Int)) = true := decide_eq_true c80
                                                            have c80b1 : decide (1 < t80107.length) = true := decide_eq_true (by omega)
                                                            clear c80
                                                            by_cases c81 : (rdOf ByteArray.empty t80107 1).toList = ((((rdOf ByteArray.empty t80107 0).extract 0 4) ++ ((rdOf ByteArray.empty t80107 0).extract 5 7)) ++ ((rdOf ByteArray.empty t80107 0).extract 8 (rdOf ByteArray.empty t80107 0).size)).toList
                                                            · rw [if_pos c81] at H
                                                              have c81b0 : ((rdOf ByteArray.empty t80107 1).toList == ((((rdOf ByteArray.empty t80107 0).extract 0 4) ++ ((rdOf ByteArray.empty t80107 0).extract 5 7)) ++ ((rdOf ByteArray.empty t80107 0).extract 8 (rdOf ByteArray.empty t80107 0).size)).toList) = true := beq_iff_eq.mpr c81
                                                              have c81b1 : ((rdOf ByteArray.empty t80107 1).toList != ((((rdOf ByteArray.empty t80107 0).extract 0 4) ++ ((rdOf ByteArray.empty t80107 0).extract 5 7)) ++ ((rdOf ByteArray.empty t80107 0).extract 8 (rdOf ByteArray.empty t80107 0).size)).toList) = false := bne_eq_false_iff_eq.mpr c81
                                                              clear c81
                                                              by_cases c82 : 3 < (t80107.length : Int)
                                                              · rw [if_pos c82] at H
                                                                have c82b0 : decide (3 < (t80107.length : Int)) = true := decide_eq_true c82
                                                                have c82b1 : decide (3 < t80107.length) = true := decide_eq_true (by omega)
                                                                clear c82
                                                                by_cases c83 : (rdOf ByteArray.empty t80107 3).toList = (((rdOf ByteArray.empty t80107 2).extract 0 4) ++ ((rdOf ByteArray.empty t80107 2).extract 5 (rdOf ByteArray.empty t80107 2).size)).toList
                                                                · rw [if_pos c83] at H
                                                                  have c83b0 : ((rdOf ByteArray.empty t80107 3).toList == (((rdOf ByteArray.empty t80107 2).extract 0 4) ++ ((rdOf ByteArray.empty t80107 2).extract 5 (rdOf ByteArray.empty t80107 2).size)).toList) = true := beq_iff_eq.mpr c83
                                                                  have c83b1 : ((rdOf ByteArray.empty t80107 3).toList != (((rdOf ByteArray.empty t80107 2).extract 0 4) ++ ((rdOf ByteArray.empty t80107 2).extract 5 (rdOf ByteArray.empty t80107 2).size)).toList) = false := bne_eq_false_iff_eq.mpr c83
                                                                  clear c83
                                                                  by_cases c84 : 5 < (t80107.length : Int)
                                                                  · rw [if_pos c84] at H
                                                                    have c84b0 : decide (5 < (t80107.length : Int)) = true := decide_eq_true c84
                                                                    have c84b1 : decide (5 < t80107.length) = true := decide_eq_true (by omega)
                                                                    clear c84
                                                                    by_cases c85 : (rdOf ByteArray.empty t80107 5).toList = ((((rdOf ByteArray.empty t80107 4).extract 0 4) ++ ((rdOf ByteArray.empty t80107 4).extract 5 8)) ++ ((rdOf ByteArray.empty t80107 4).extract 9 (rdOf ByteArray.empty t80107 4).size)).toList
                                                                    · rw [if_pos c85] at H
                                                                      have c85b0 : ((rdOf ByteArray.empty t80107 5).toList == ((((rdOf ByteArray.empty t80107 4).extract 0 4) ++ ((rdOf ByteArray.empty t80107 4).extract 5 8)) ++ ((rdOf ByteArray.empty t80107 4).extract 9 (rdOf ByteArray.empty t80107 4).size)).toList) = true := beq_iff_eq.mpr c85
                                                                      have c85b1 : ((rdOf ByteArray.empty t80107 5).toList != ((((rdOf ByteArray.empty t80107 4).extract 0 4) ++ ((rdOf ByteArray.empty t80107 4).extract 5 8)) ++ ((rdOf ByteArray.empty t80107 4).extract 9 (rdOf ByteArray.empty t80107 4).size)).toList) = false := bne_eq_false_iff_eq.mpr c85
                                                                      clear c85
                                                                      by_cases c86 : 0 < (t80114.length : Int)
                                                                      · rw [if_pos c86] at H
                                                                        have c86b0 : decide (0 < (t80114.length : Int)) = true := decide_eq_true c86
                                                                        have c86b1 : decide (0 < t80114.length) = true := decide_eq_true (by omega)
                                                                        clear c86
                                                                        by_cases c87 : ((Op.bytesLess ((rdOf ByteArray.empty t80107 0).toList) ((rdOf ByteArray.empty t80114 0).toList)) == (decide (t80101 < t80102))) = true
                                                                        · rw [if_pos c87] at H
                                                                          have c87b0 : ((Op.bytesLess ((rdOf ByteArray.empty t80107 0).toList) ((rdOf ByteArray.empty t80114 0).toList)) == (decide (t80101 < t80102))) = true := c87
                                                                          (try (have c87b1 : decide ((Op.bytesLess ((rdOf ByteArray.empty t80107 0).toList) ((rdOf ByteArray.empty t80114 0).toList)) = (decide (t80101 < t80102))) = true := by simpa using c87))
                                                                          (try (have c87b2 : ((Op.bytesLess ((rdOf ByteArray.empty t80107 0).toList) ((rdOf ByteArray.empty t80114 0).toList)) == (decide (t80101 < t80102))) = true := by simpa using c87))
                                                                          clear c87
                                                                          by_cases c88 : 1 < (t80114.length : Int)
                                                                          · rw [if_pos c88] at H
                                                                            have c88b0 : decide (1 < (t80114.length : Int)) = true := decide_eq_true c88
                                                                            have c88b1 : decide (1 < t80114.length) = true := decide_eq_true (by omega)
                                                                            clear c88
                                                                            by_cases c89 : ((Op.bytesLess ((rdOf ByteArray.empty t80107 1).toList) ((rdOf ByteArray.empty t80114 1).toList)) == (decide (t80101 < t80102))) = true
                                                                            · rw [if_pos c89] at H
                                                                              have c89b0 : ((Op.bytesLess ((rdOf ByteArray.empty t80107 1).toList) ((rdOf ByteArray.empty t80114 1).toList)) == (decide (t80101 < t80102))) = true := c89
                                                                              (try (have c89b1 : decide ((Op.bytesLess ((rdOf ByteArray.empty t80107 1).toList) ((rdOf ByteArray.empty t80114 1).toList)) = (decide (t80101 < t80102))) = true := by simpa using c89))
                                                                              (try (have c89b2 : ((Op.bytesLess ((rdOf ByteArray.empty t80107 1).toList) ((rdOf ByteArray.empty t80114 1).toList)) == (decide (t80101 < t80102))) = true := by simpa using c89))
                                                                              clear c89
                                                                              by_cases c90 : 2 < (t80114.length : Int)
                                                                              · rw [if_pos c90] at H
                                                                                have c90b0 : decide (2 < (t80114.length : Int)) = true := decide_eq_true c90
                                                                                have c90b1 : decide (2 < t80114.length) = true := decide_eq_true (by omega)
                                                                                clear c90
                                                                                by_cases c91 : ((Op.bytesLess ((rdOf ByteArray.empty t80107 2).toList) ((rdOf ByteArray.empty t80114 2).toList)) == (decide (t80101 < t80102))) = true
                                                                                · rw [if_pos c91] at H
                                                                                  have c91b0 : ((Op.bytesLess ((rdOf ByteArray.empty t80107 2).toList) ((rdOf ByteArray.empty t80114 2).toList)) == (decide (t80101 < t80102))) = true := c91
                                                                                  (try (have c91b1 : decide ((Op.bytesLess ((rdOf ByteArray.empty t80107 2).toList) ((rdOf ByteArray.empty t80114 2).toList)) = (decide (t80101 < t80102))) = true := by simpa using c91))
                                                                                  (try (have c91b2 : ((Op.bytesLess ((rdOf ByteArray.empty t80107 2).toList) ((rdOf ByteArray.empty t80114 2).toList)) == (decide (t80101 < t80102))) = true := by simpa using c91))
                                                                                  clear c91
                                                                                  by_cases c92 : 4 < (t80114.length : Int)
                                                                                  · rw [if_pos c92] at H
                                                                                    have c92b0 : decide (4 < (t80114.length : Int)) = true := decide_eq_true c92
                                                                                    have c92b1 : decide (4 < t80114.length) = true := decide_eq_true (by omega)
                                                                                    clear c92
                                                                                    obtain rfl := Option.some.inj H
                                                                                    obtain ⟨Ao93, co93, eo93⟩ := Kd.R_slice HO_8.out
                                                                                    subst eo93
                                                                                    have p80128 : 0 ≤ (0 : Int) := (by omega)
                                                                                    have q80128 : 0 < (t80107.length : Int) := of_decide_eq_true (by first | (with_reducible assumption) | assumption)
                                                                                    obtain ⟨ad80128, e80128, hx80128_0⟩ := Kd.at_string (Kd.R_reads' HO_8.out).2.2 0 p80128 q80128
                                                                                    cases e80128
                                                                                    have qi80128 : (0 < t80107.length) = True := eq_true (by omega)
                                                                                    (try rw [show ((0 : Int)).toNat = 0 from rfl] at hx80128_0)
                                                                                    (try rw [Addr.add_zero'] at hx80128_0)
                                                                                    replace p80128 := eq_true p80128
                                                                                    replace q80128 := eq_true q80128
                                                                                    have p80129 : 0 ≤ (0 : Int) := (by omega)
                                                                                    have q80129 : 0 < (t80107.length : Int) := of_decide_eq_true (by first | (with_reducible assumption) | assumption)
                                                                                    obtain ⟨ad80129, e80129, hx80129_0⟩ := Kd.at_string (Kd.R_reads' HO_8.out).2.2 0 p80129 q80129
                                                                                    obtain rfl : ad80128 = ad80129 := (by injection e80129)
                                                                                    have qi80129 : (0 < t80107.length) = True := eq_true (by omega)
                                                                                    (try rw [show ((0 : Int)).toNat = 0 from rfl] at hx80129_0)
                                                                                    (try rw [Addr.add_zero'] at hx80129_0)
                                                                                    replace p80129 := eq_true p80129
                                                                                    replace q80129 := eq_true q80129
                                                                                    have p80130 : 0 ≤ (0 : Int) := (by omega)
                                                                                    have q80130 : 0 < (t80107.length : Int) := of_decide_eq_true (by first | (with_reducible assumption) | assumption)
                                                                                    obtain ⟨ad80130, e80130, hx80130_0⟩ := Kd.at_string (Kd.R_reads' HO_8.out).2.2 0 p80130 q80130
                                                                                    obtain rfl : ad80128 = ad80130 := (by injection e80130)
                                                                                    have qi80130 : (0 < t80107.length) = True := eq_true (by omega)
                                                                                    (try rw [show ((0 : Int)).toNat = 0 from rfl] at hx80130_0)
                                                                                    (try rw [Addr.add_zero'] at hx80130_0)
                                                                                    replace p80130 := eq_true p80130
                                                                                    replace q80130 := eq_true q80130
                                                                                    have p80131 : 0 ≤ (2 : Int) := (by omega)
                                                                                    have q80131 : 2 < (t80107.length : Int) := of_decide_eq_true (by first | (with_reducible assumption) | assumption)
                                                                                    obtain ⟨ad80131, e80131, hx80131_0⟩ := Kd.at_string (Kd.R_reads' HO_8.out).2.2 2 p80131 q80131
                                                                                    obtain rfl : ad80128 = ad80131 := (by injection e80131)
                                                                                    (try simp only [show (2 : Int).toNat = 2 from rfl, Nat.reduceMul, Nat.reduceEqDiff, Go.Addr.add, ↓reduceIte] at hx80131_0)
                                                                                    have qi80131 : (2 < t80107.length) = True := eq_true (by omega)
                                                                                    (try rw [show ((2 : Int)).toNat = 2 from rfl] at hx80131_0)
                                                                                    replace p80131 := eq_true p80131
                                                                                    replace q80131 := eq_true q80131
                                                                                    have p80132 : 0 ≤ (2 : Int) := (by omega)
                                                                                    have q80132 : 2 < (t80107.length : Int) := of_decide_eq_true (by first | (with_reducible assumption) | assumption)
                                                                                    obtain ⟨ad80132, e80132, hx80132_0⟩ := Kd.at_string (Kd.R_reads' HO_8.out).2.2 2 p80132 q80132
                                                                                    obtain rfl : ad80128 = ad80132 := (by injection e80132)
                                                                                    (try simp only [show (2 : Int).toNat = 2 from rfl, Nat.reduceMul, Nat.reduceEqDiff, Go.Addr.add, ↓reduceIte] at hx80132_0)
                                                                                    have qi80132 : (2 < t80107.length) = True := eq_true (by omega)
                                                                                    (try rw [show ((2 : Int)).toNat = 2 from rfl] at hx80132_0)
                                                                                    replace p80132 := eq_true p80132
                                                                                    replace q80132 := eq_true q80132
                                                                                    have p80133 : 0 ≤ (4 : Int) := (by omega)
                                                                                    have q80133 : 4 < (t80107.length : Int) := of_decide_eq_true (by first | (with_reducible assumption) | assumption)
                                                                                    obtain ⟨ad80133, e80133, hx80133_0⟩ := Kd.at_string (Kd.R_reads' HO_8.out).2.2 4 p80133 q80133
                                                                                    obtain rfl : ad80128 = ad80133 := (by injection e80133)
                                                                                    (try simp only [show (4 : Int).toNat = 4 from rfl, Nat.reduceMul, Nat.reduceEqDiff, Go.Addr.add, ↓reduceIte] at hx80133_0)
                                                                                    have qi80133 : (4 < t80107.length) = True := eq_true (by omega)
                                                                                    (try rw [show ((4 : Int)).toNat = 4 from rfl] at hx80133_0)
                                                                                    replace p80133 := eq_true p80133
                                                                                    replace q80133 := eq_true q80133
                                                                                    have p80134 : 0 ≤ (4 : Int) := (by omega)
                                                                                    have q80134 : 4 < (t80107.length : Int) := of_decide_eq_true (by first | (with_reducible assumption) | assumption)
                                                                                    obtain ⟨ad80134, e80134, hx80134_0⟩ := Kd.at_string (Kd.R_reads' HO_8.out).2.2 4 p80134 q80134
                                                                                    obtain rfl : ad80128 = ad80134 := (by injection e80134)
                                                                                    (try simp only [show (4 : Int).toNat = 4 from rfl, Nat.reduceMul, Nat.reduceEqDiff, Go.Addr.add, ↓reduceIte] at hx80134_0)
                                                                                    have qi80134 : (4 < t80107.length) = True := eq_true (by omega)
                                                                                    (try rw [show ((4 : Int)).toNat = 4 from rfl] at hx80134_0)
                                                                                    replace p80134 := eq_true p80134
                                                                                    replace q80134 := eq_true q80134
                                                                                    have p80135 : 0 ≤ (4 : Int) := (by omega)
                                                                                    have q80135 : 4 < (t80107.length : Int) := of_decide_eq_true (by first | (with_reducible assumption) | assumption)
                                                                                    obtain ⟨ad80135, e80135, hx80135_0⟩ := Kd.at_string (Kd.R_reads' HO_8.out).2.2 4 p80135 q80135
                                                                                    obtain rfl : ad80128 = ad80135 := (by injection e80135)
                                                                                    (try simp only [show (4 : Int).toNat = 4 from rfl, Nat.reduceMul, Nat.reduceEqDiff, Go.Addr.add, ↓reduceIte] at hx80135_0)
                                                                                    have qi80135 : (4 < t80107.length) = True := eq_true (by omega)
                                                                                    (try rw [show ((4 : Int)).toNat = 4 from rfl] at hx80135_0)
                                                                                    replace p80135 := eq_true p80135
                                                                                    replace q80135 := eq_true q80135
                                                                                    have p80136 : 0 ≤ (1 : Int) := (by omega)
                                                                                    have q80136 : 1 < (t80107.length : Int) := of_decide_eq_true (by first | (with_reducible assumption) | assumption)
                                                                                    obtain ⟨ad80136, e80136, hx80136_0⟩ := Kd.at_string (Kd.R_reads' HO_8.out).2.2 1 p80136 q80136
                                                                                    obtain rfl : ad80128 = ad80136 := (by injection e80136)
                                                                                    (try simp only [show (1 : Int).toNat = 1 from rfl, Nat.reduceMul, Nat.reduceEqDiff, Go.Addr.add, ↓reduceIte] at hx80136_0)
                                                                                    have qi80136 : (1 < t80107.length) = True := eq_true (by omega)
                                                                                    (try rw [show ((1 : Int)).toNat = 1 from rfl] at hx80136_0)
                                                                                    replace p80136 := eq_true p80136
                                                                                    replace q80136 := eq_true q80136
                                                                                    have p80137 : 0 ≤ (3 : Int) := (by omega)
                                                                                    have q80137 : 3 < (t80107.length : Int) := of_decide_eq_true (by first | (with_reducible assumption) | assumption)
                                                                                    obtain ⟨ad80137, e80137, hx80137_0⟩ := Kd.at_string (Kd.R_reads' HO_8.out).2.2 3 p80137 q80137
                                                                                    obtain rfl : ad80128 = ad80137 := (by injection e80137)
                                                                                    (try simp only [show (3 : Int).toNat = 3 from rfl, Nat.reduceMul, Nat.reduceEqDiff, Go.Addr.add, ↓reduceIte] at hx80137_0)
                                                                                    have qi80137 : (3 < t80107.length) = True := eq_true (by omega)
                                                                                    (try rw [show ((3 : Int)).toNat = 3 from rfl] at hx80137_0)
                                                                                    replace p80137 := eq_true p80137
                                                                                    replace q80137 := eq_true q80137
                                                                                    have p80138 : 0 ≤ (5 : Int) := (by omega)
                                                                                    have q80138 : 5 < (t80107.length : Int) := of_decide_eq_true (by first | (with_reducible assumption) | assumption)
                                                                                    obtain ⟨ad80138, e80138, hx80138_0⟩ := Kd.at_string (Kd.R_reads' HO_8.out).2.2 5 p80138 q80138
                                                                                    obtain rfl : ad80128 = ad80138 := (by injection e80138)
                                                                                    (try simp only [show (5 : Int).toNat = 5 from rfl, Nat.reduceMul, Nat.reduceEqDiff, Go.Addr.add, ↓reduceIte] at hx80138_0)
                                                                                    have qi80138 : (5 < t80107.length) = True := eq_true (by omega)
                                                                                    (try rw [show ((5 : Int)).toNat = 5 from rfl] at hx80138_0)
                                                                                    replace p80138 := eq_true p80138
                                                                                    replace q80138 := eq_true q80138
                                                                                    have p80139 : 0 ≤ (0 : Int) := (by omega)
                                                                                    have q80139 : 0 < (t80107.length : Int) := of_decide_eq_true (by first | (with_reducible assumption) | assumption)
                                                                                    obtain ⟨ad80139, e80139, hx80139_0⟩ := Kd.at_string (Kd.R_reads' HO_8.out).2.2 0 p80139 q80139
                                                                                    obtain rfl : ad80128 = ad80139 := (by injection e80139)
                                                                                    have qi80139 : (0 < t80107.length) = True := eq_true (by omega)
                                                                                    (try rw [show ((0 : Int)).toNat = 0 from rfl] at hx80139_0)
                                                                                    (try rw [Addr.add_zero'] at hx80139_0)
                                                                                    replace p80139 := eq_true p80139
                                                                                    replace q80139 := eq_true q80139
                                                                                    obtain ⟨Ao94, co94, eo94⟩ := Kd.R_slice HO_10.out
                                                                                    subst eo94
                                                                                    have p80140 : 0 ≤ (0 : Int) := (by omega)
                                                                                    have q80140 : 0 < (t80114.length : Int) := of_decide_eq_true (by first | (with_reducible assumption) | assumption)
                                                                                    obtain ⟨ad80140, e80140, hx80140_0⟩ := Kd.at_string (Kd.R_reads' HO_10.out).2.2 0 p80140 q80140
                                                                                    cases e80140
                                                                                    have qi80140 : (0 < t80114.length) = True := eq_true (by omega)
                                                                                    (try rw [show ((0 : Int)).toNat = 0 from rfl] at hx80140_0)
                                                                                    (try rw [Addr.add_zero'] at hx80140_0)
                                                                                    replace p80140 := eq_true p80140
                                                                                    replace q80140 := eq_true q80140
                                                                                    have p80141 : 0 ≤ (1 : Int) := (by omega)
                                                                                    have q80141 : 1 < (t80107.length : Int) := of_decide_eq_true (by first | (with_reducible assumption) | assumption)
                                                                                    obtain ⟨ad80141, e80141, hx80141_0⟩ := Kd.at_string (Kd.R_reads' HO_8.out).2.2 1 p80141 q80141
                                                                                    obtain rfl : ad80128 = ad80141 := (by injection e80141)
                                                                                    (try simp only [show (1 : Int).toNat = 1 from rfl, Nat.reduceMul, Nat.reduceEqDiff, Go.Addr.add, ↓reduceIte] at hx80141_0)
                                                                                    have qi80141 : (1 < t80107.length) = True := eq_true (by omega)
                                                                                    (try rw [show ((1 : Int)).toNat = 1 from rfl] at hx80141_0)
                                                                                    replace p80141 := eq_true p80141
                                                                                    replace q80141 := eq_true q80141
                                                                                    have p80142 : 0 ≤ (1 : Int) := (by omega)
                                                                                    have q80142 : 1 < (t80114.length : Int) := of_decide_eq_true (by first | (with_reducible assumption) | assumption)
                                                                                    obtain ⟨ad80142, e80142, hx80142_0⟩ := Kd.at_string (Kd.R_reads' HO_10.out).2.2 1 p80142 q80142
                                                                                    obtain rfl : ad80140 = ad80142 := (by injection e80142)
                                                                                    (try simp only [show (1 : Int).toNat = 1 from rfl, Nat.reduceMul, Nat.reduceEqDiff, Go.Addr.add, ↓reduceIte] at hx80142_0)
                                                                                    have qi80142 : (1 < t80114.length) = True := eq_true (by omega)
                                                                                    (try rw [show ((1 : Int)).toNat = 1 from rfl] at hx80142_0)
                                                                                    replace p80142 := eq_true p80142
                                                                                    replace q80142 := eq_true q80142
                                                                                    have p80143 : 0 ≤ (2 : Int) := (by omega)
                                                                                    have q80143 : 2 < (t80107.length : Int) := of_decide_eq_true (by first | (with_reducible assumption) | assumption)
                                                                                    obtain ⟨ad80143, e80143, hx80143_0⟩ := Kd.at_string (Kd.R_reads' HO_8.out).2.2 2 p80143 q80143
                                                                                    obtain rfl : ad80128 = ad80143 := (by injection e80143)
                                                                                    (try simp only [show (2 : Int).toNat = 2 from rfl, Nat.reduceMul, Nat.reduceEqDiff, Go.Addr.add, ↓reduceIte] at hx80143_0)
                                                                                    have qi80143 : (2 < t80107.length) = True := eq_true (by omega)
                                                                                    (try rw [show ((2 : Int)).toNat = 2 from rfl] at hx80143_0)
                                                                                    replace p80143 := eq_true p80143
                                                                                    replace q80143 := eq_true q80143
                                                                                    have p80144 : 0 ≤ (2 : Int) := (by omega)
                                                                                    have q80144 : 2 < (t80114.length : Int) := of_decide_eq_true (by first | (with_reducible assumption) | assumption)
                                                                                    obtain ⟨ad80144, e80144, hx80144_0⟩ := Kd.at_string (Kd.R_reads' HO_10.out).2.2 2 p80144 q80144
                                                                                    obtain rfl : ad80140 = ad80144 := (by injection e80144)
                                                                                    (try simp only [show (2 : Int).toNat = 2 from rfl, Nat.reduceMul, Nat.reduceEqDiff, Go.Addr.add, ↓reduceIte] at hx80144_0)
                                                                                    have qi80144 : (2 < t80114.length) = True := eq_true (by omega)
                                                                                    (try rw [show ((2 : Int)).toNat = 2 from rfl] at hx80144_0)
                                                                                    replace p80144 := eq_true p80144
                                                                                    replace q80144 := eq_true q80144
                                                                                    have p80145 : 0 ≤ (4 : Int) := (by omega)
                                                                                    have q80145 : 4 < (t80107.length : Int) := of_decide_eq_true (by first | (with_reducible assumption) | assumption)
                                                                                    obtain ⟨ad80145, e80145, hx80145_0⟩ := Kd.at_string (Kd.R_reads' HO_8.out).2.2 4 p80145 q80145
                                                                                    obtain rfl : ad80128 = ad80145 := (by injection e80145)
                                                                                    (try simp only [show (4 : Int).toNat = 4 from rfl, Nat.reduceMul, Nat.reduceEqDiff, Go.Addr.add, ↓reduceIte] at hx80145_0)
                                                                                    have qi80145 : (4 < t80107.length) = True := eq_true (by omega)
                                                                                    (try rw [show ((4 : Int)).toNat = 4 from rfl] at hx80145_0)
                                                                                    replace p80145 := eq_true p80145
                                                                                    replace q80145 := eq_true q80145
                                                                                    have p80146 : 0 ≤ (4 : Int) := (by omega)
                                                                                    have q80146 : 4 < (t80114.length : Int) := of_decide_eq_true (by first | (with_reducible assumption) | assumption)
                                                                                    obtain ⟨ad80146, e80146, hx80146_0⟩ := Kd.at_string (Kd.R_reads' HO_10.out).2.2 4 p80146 q80146
                                                                                    obtain rfl : ad80140 = ad80146 := (by injection e80146)
                                                                                    (try simp only [show (4 : Int).toNat = 4 from rfl, Nat.reduceMul, Nat.reduceEqDiff, Go.Addr.add, ↓reduceIte] at hx80146_0)
                                                                                    have qi80146 : (4 < t80114.length) = True := eq_true (by omega)
                                                                                    (try rw [show ((4 : Int)).toNat = 4 from rfl] at hx80146_0)
                                                                                    replace p80146 := eq_true p80146
                                                                                    replace q80146 := eq_true q80146
                                                                                    go_wp2
                                                                                    repeat (go_quiet (fail); try go_wp2)
                                                                                    go_ret
                                                                                    exact ⟨by first | rfl | (simp [errW_none, errW_some] <;> rfl) | (simp [*, errW_none, errW_some] <;> rfl), by repeat (first | (with_reducible first | exact HB.out | apply below_alloc | apply pw_below_drewN | apply below_drew1 | refine below_set ?_ GE80106.out) | exact HB.out)⟩
                                                                                  · rw [if_neg c92] at H
                                                                                    exact absurd H (by simp)
                                                                                · rw [if_neg c91] at H
                                                                                  have c91b0 : ((Op.bytesLess ((rdOf ByteArray.empty t80107 2).toList) ((rdOf ByteArray.empty t80114 2).toList)) == (decide (t80101 < t80102))) = false := by simpa using c91
                                                                                  (try (have c91b1 : decide ((Op.bytesLess ((rdOf ByteArray.empty t80107 2).toList) ((rdOf ByteArray.empty t80114 2).toList)) = (decide (t80101 < t80102))) = false := by simpa using c91))
                                                                                  (try (have c91b2 : ((Op.bytesLess ((rdOf ByteArray.empty t80107 2).toList) ((rdOf ByteArray.empty t80114 2).toList)) == (decide (t80101 < t80102))) = false := by simpa using c91))
                                                                                  (try (have c91b3 : ¬ ((Op.bytesLess ((rdOf ByteArray.empty t80107 2).toList) ((rdOf ByteArray.empty t80114 2).toList)) = (decide (t80101 < t80102))) := by simpa using c91))
                                                                                  clear c91
                                                                                  obtain rfl := Option.some.inj H
                                                                                  obtain ⟨Ao95, co95, eo95⟩ := Kd.R_slice HO_8.out
                                                                                  subst eo95
                                                                                  have p80128 : 0 ≤ (0 : Int) := (by omega)
                                                                                  have q80128 : 0 < (t80107.length : Int) := of_decide_eq_true (by first | (with_reducible assumption) | assumption)
                                                                                  obtain ⟨ad80128, e80128, hx80128_0⟩ := Kd.at_string (Kd.R_reads' HO_8.out).2.2 0 p80128 q80128
                                                                                  cases e80128
                                                                                  have qi80128 : (0 < t80107.length) = True := eq_true (by omega)
                                                                                  (try rw [show ((0 : Int)).toNat = 0 from rfl] at hx80128_0)
                                                                                  (try rw [Addr.add_zero'] at hx80128_0)
                                                                                  replace p80128 := eq_true p80128
                                                                                  replace q80128 := eq_true q80128
                                                                                  have p80129 : 0 ≤ (0 : Int) := (by omega)
                                                                                  have q80129 : 0 < (t80107.length : Int) := of_decide_eq_true (by first | (with_reducible assumption) | assumption)
                                                                                  obtain ⟨ad80129, e80129, hx80129_0⟩ := Kd.at_string (Kd.R_reads' HO_8.out).2.2 0 p80129 q80129
                                                                                  obtain rfl : ad80128 = ad80129 := (by injection e80129)
                                                                                  have qi80129 : (0 < t80107.length) = True := eq_true (by omega)
                                                                                  (try rw [show ((0 : Int)).toNat = 0 from rfl] at hx80129_0)
                                                                                  (try rw [Addr.add_zero'] at hx80129_0)
                                                                                  replace p80129 := eq_true p80129
                                                                                  replace q80129 := eq_true q80129
                                                                                  have p80130 : 0 ≤ (0 : Int) := (by omega)
                                                                                  have q80130 : 0 < (t80107.length : Int) := of_decide_eq_true (by first | (with_reducible assumption) | assumption)
                                                                                  obtain ⟨ad80130, e80130, hx80130_0⟩ := Kd.at_string (Kd.R_reads' HO_8.out).2.2 0 p80130 q80130
                                                                                  obtain rfl : ad80128 = ad80130 := (by injection e80130)
                                                                                  have qi80130 : (0 < t80107.length) = True := eq_true (by omega)
                                                                                  (try rw [show ((0 : Int)).toNat = 0 from rfl] at hx80130_0)
                                                                                  (try rw [Addr.add_zero'] at hx80130_0)
                                                                                  replace p80130 := eq_true p80130
                                                                                  replace q80130 := eq_true q80130
                                                                                  have p80131 : 0 ≤ (2 : Int) := (by omega)
                                                                                  have q80131 : 2 < (t80107.length : Int) := of_decide_eq_true (by first | (with_reducible assumption) | assumption)
                                                                                  obtain ⟨ad80131, e80131, hx80131_0⟩ := Kd.at_string (Kd.R_reads' HO_8.out).2.2 2 p80131 q80131
                                                                                  obtain rfl : ad80128 = ad80131 := (by injection e80131)
                                                                                  (try simp only [show (2 : Int).toNat = 2 from rfl, Nat.reduceMul, Nat.reduceEqDiff, Go.Addr.add, ↓reduceIte] at hx80131_0)
                                                                                  have qi80131 : (2 < t80107.length) = True := eq_true (by omega)
                                                                                  (try rw [show ((2 : Int)).toNat = 2 from rfl] at hx80131_0)
                                                                                  replace p80131 := eq_true p80131
                                                                                  replace q80131 := eq_true q80131
                                                                                  have p80132 : 0 ≤ (2 : Int) := (by omega)
                                                                                  have q80132 : 2 < (t80107.length : Int) := of_decide_eq_true (by first | (with_reducible assumption) | assumption)
                                                                                  obtain ⟨ad80132, e80132, hx80132_0⟩ := Kd.at_string (Kd.R_reads' HO_8.out).2.2 2 p80132 q80132
                                                                                  obtain rfl : ad80128 = ad80132 := (by injection e80132)
                                                                                  (try simp only [show (2 : Int).toNat = 2 from rfl, Nat.reduceMul, Nat.reduceEqDiff, Go.Addr.add, ↓reduceIte] at hx80132_0)
                                                                                  have qi80132 : (2 < t80107.length) = True := eq_true (by omega)
                                                                                  (try rw [show ((2 : Int)).toNat = 2 from rfl] at hx80132_0)
                                                                                  replace p80132 := eq_true p80132
                                                                                  replace q80132 := eq_true q80132
                                                                                  have p80133 : 0 ≤ (4 : Int) := (by omega)
                                                                                  have q80133 : 4 < (t80107.length : Int) := of_decide_eq_true (by first | (with_reducible assumption) | assumption)
                                                                                  obtain ⟨ad80133, e80133, hx80133_0⟩ := Kd.at_string (Kd.R_reads' HO_8.out).2.2 4 p80133 q80133
                                                                                  obtain rfl : ad80128 = ad80133 := (by injection e80133)
                                                                                  (try simp only [show (4 : Int).toNat = 4 from rfl, Nat.reduceMul, Nat.reduceEqDiff, Go.Addr.add, ↓reduceIte] at hx80133_0)
                                                                                  have qi80133 : (4 < t80107.length) = True := eq_true (by omega)
                                                                                  (try rw [show ((4 : Int)).toNat = 4 from rfl] at hx80133_0)
                                                                                  replace p80133 := eq_true p80133
                                                                                  replace q80133 := eq_true q80133
                                                                                  have p80134 : 0 ≤ (4 : Int) := (by omega)
                                                                                  have q80134 : 4 < (t80107.length : Int) := of_decide_eq_true (by first | (with_reducible assumption) | assumption)
                                                                                  obtain ⟨ad80134, e80134, hx80134_0⟩ := Kd.at_string (Kd.R_reads' HO_8.out).2.2 4 p80134 q80134
                                                                                  obtain rfl : ad80128 = ad80134 := (by injection e80134)
                                                                                  (try simp only [show (4 : Int).toNat = 4 from rfl, Nat.reduceMul, Nat.reduceEqDiff, Go.Addr.add, ↓reduceIte] at hx80134_0)
                                                                                  have qi80134 : (4 < t80107.length) = True := eq_true (by omega)
                                                                                  (try rw [show ((4 : Int)).toNat = 4 from rfl] at hx80134_0)
                                                                                  replace p80134 := eq_true p80134
                                                                                  replace q80134 := eq_true q80134
                                                                                  have p80135 : 0 ≤ (4 : Int) := (by omega)
                                                                                  have q80135 : 4 < (t80107.length : Int) := of_decide_eq_true (by first | (with_reducible assumption) | assumption)
                                                                                  obtain ⟨ad80135, e80135, hx80135_0⟩ := Kd.at_string (Kd.R_reads' HO_8.out).2.2 4 p80135 q80135
                                                                                  obtain rfl : ad80128 = ad80135 := (by injection e80135)
                                                                                  (try simp only [show (4 : Int).toNat = 4 from rfl, Nat.reduceMul, Nat.reduceEqDiff, Go.Addr.add, ↓reduceIte] at hx80135_0)
                                                                                  have qi80135 : (4 < t80107.length) = True := eq_true (by omega)
                                                                                  (try rw [show ((4 : Int)).toNat = 4 from rfl] at hx80135_0)
                                                                                  replace p80135 := eq_true p80135
                                                                                  replace q80135 := eq_true q80135
                                                                                  have p80136 : 0 ≤ (1 : Int) := (by omega)
                                                                                  have q80136 : 1 < (t80107.length : Int) := of_decide_eq_true (by first | (with_reducible assumption) | assumption)
                                                                                  obtain ⟨ad80136, e80136, hx80136_0⟩ := Kd.at_string (Kd.R_reads' HO_8.out).2.2 1 p80136 q80136
                                                                                  obtain rfl : ad80128 = ad80136 := (by injection e80136)
                                                                                  (try simp only [show (1 : Int).toNat = 1 from rfl, Nat.reduceMul, Nat.reduceEqDiff, Go.Addr.add, ↓reduceIte] at hx80136_0)
                                                                                  have qi80136 : (1 < t80107.length) = True := eq_true (by omega)
                                                                                  (try rw [show ((1 : Int)).toNat = 1 from rfl] at hx80136_0)
                                                                                  replace p80136 := eq_true p80136
                                                                                  replace q80136 := eq_true q80136
                                                                                  have p80137 : 0 ≤ (3 : Int) := (by omega)
                                                                                  have q80137 : 3 < (t80107.length : Int) := of_decide_eq_true (by first | (with_reducible assumption) | assumption)
                                                                                  obtain ⟨ad80137, e80137, hx80137_0⟩ := Kd.at_string (Kd.R_reads' HO_8.out).2.2 3 p80137 q80137
                                                                                  obtain rfl : ad80128 = ad80137 := (by injection e80137)
                                                                                  (try simp only [show (3 : Int).toNat = 3 from rfl, Nat.reduceMul, Nat.reduceEqDiff, Go.Addr.add, ↓reduceIte] at hx80137_0)
                                                                                  have qi80137 : (3 < t80107.length) = True := eq_true (by omega)
                                                                                  (try rw [show ((3 : Int)).toNat = 3 from rfl] at hx80137_0)
                                                                                  replace p80137 := eq_true p80137
                                                                                  replace q80137 := eq_true q80137
                                                                                  have p80138 : 0 ≤ (5 : Int) := (by omega)
                                                                                  have q80138 : 5 < (t80107.length : Int) := of_decide_eq_true (by first | (with_reducible assumption) | assumption)
                                                                                  obtain ⟨ad80138, e80138, hx80138_0⟩ := Kd.at_string (Kd.R_reads' HO_8.out).2.2 5 p80138 q80138
                                                                                  obtain rfl : ad80128 = ad80138 := (by injection e80138)
                                                                                  (try simp only [show (5 : Int).toNat = 5 from rfl, Nat.reduceMul, Nat.reduceEqDiff, Go.Addr.add, ↓reduceIte] at hx80138_0)
                                                                                  have qi80138 : (5 < t80107.length) = True := eq_true (by omega)
                                                                                  (try rw [show ((5 : Int)).toNat = 5 from rfl] at hx80138_0)
                                                                                  replace p80138 := eq_true p80138
                                                                                  replace q80138 := eq_true q80138
                                                                                  have p80139 : 0 ≤ (0 : Int) := (by omega)
                                                                                  have q80139 : 0 < (t80107.length : Int) := of_decide_eq_true (by first | (with_reducible assumption) | assumption)
                                                                                  obtain ⟨ad80139, e80139, hx80139_0⟩ := Kd.at_string (Kd.R_reads' HO_8.out).2.2 0 p80139 q80139
                                                                                  obtain rfl : ad80128 = ad80139 := (by injection e80139)
                                                                                  have qi80139 : (0 < t80107.length) = True := eq_true (by omega)
                                                                                  (try rw [show ((0 : Int)).toNat = 0 from rfl] at hx80139_0)
                                                                                  (try rw [Addr.add_zero'] at hx80139_0)
                                                                                  replace p80139 := eq_true p80139
                                                                                  replace q80139 := eq_true q80139
                                                                                  obtain ⟨Ao96, co96, eo96⟩ := Kd.R_slice HO_10.out
                                                                                  subst eo96
                                                                                  have p80140 : 0 ≤ (0 : Int) := (by omega)
                                                                                  have q80140 : 0 < (t80114.length : Int) := of_decide_eq_true (by first | (with_reducible assumption) | assumption)
                                                                                  obtain ⟨ad80140, e80140, hx80140_0⟩ := Kd.at_string (Kd.R_reads' HO_10.out).2.2 0 p80140 q80140
                                                                                  cases e80140
                                                                                  have qi80140 : (0 < t80114.length) = True := eq_true (by omega)
                                                                                  (try rw [show ((0 : Int)).toNat = 0 from rfl] at hx80140_0)
                                                                                  (try rw [Addr.add_zero'] at hx80140_0)
                                                                                  replace p80140 := eq_true p80140
                                                                                  replace q80140 := eq_true q80140
                                                                                  have p80141 : 0 ≤ (1 : Int) := (by omega)
                                                                                  have q80141 : 1 < (t80107.length : Int) := of_decide_eq_true (by first | (with_reducible assumption) | assumption)
                                                                                  obtain ⟨ad80141, e80141, hx80141_0⟩ := Kd.at_string (Kd.R_reads' HO_8.out).2.2 1 p80141 q80141
                                                                                  obtain rfl : ad80128 = ad80141 := (by injection e80141)
                                                                                  (try simp only [show (1 : Int).toNat = 1 from rfl, Nat.reduceMul, Nat.reduceEqDiff, Go.Addr.add, ↓reduceIte] at hx80141_0)
                                                                                  have qi80141 : (1 < t80107.length) = True := eq_true (by omega)
                                                                                  (try rw [show ((1 : Int)).toNat = 1 from rfl] at hx80141_0)
                                                                                  replace p80141 := eq_true p80141
                                                                                  replace q80141 := eq_true q80141
                                                                                  have p80142 : 0 ≤ (1 : Int) := (by omega)
                                                                                  have q80142 : 1 < (t80114.length : Int) := of_decide_eq_true (by first | (with_reducible assumption) | assumption)
                                                                                  obtain ⟨ad80142, e80142, hx80142_0⟩ := Kd.at_string (Kd.R_reads' HO_10.out).2.2 1 p80142 q80142
                                                                                  obtain rfl : ad80140 = ad80142 := (by injection e80142)
                                                                                  (try simp only [show (1 : Int).toNat = 1 from rfl, Nat.reduceMul, Nat.reduceEqDiff, Go.Addr.add, ↓reduceIte] at hx80142_0)
                                                                                  have qi80142 : (1 < t80114.length) = True := eq_true (by omega)
                                                                                  (try rw [show ((1 : Int)).toNat = 1 from rfl] at hx80142_0)
                                                                                  replace p80142 := eq_true p80142
                                                                                  replace q80142 := eq_true q80142
                                                                                  have p80143 : 0 ≤ (2 : Int) := (by omega)
                                                                                  have q80143 : 2 < (t80107.length : Int) := of_decide_eq_true (by first | (with_reducible assumption) | assumption)
                                                                                  obtain ⟨ad80143, e80143, hx80143_0⟩ := Kd.at_string (Kd.R_reads' HO_8.out).2.2 2 p80143 q80143
                                                                                  obtain rfl : ad80128 = ad80143 := (by injection e80143)
                                                                                  (try simp only [show (2 : Int).toNat = 2 from rfl, Nat.reduceMul, Nat.reduceEqDiff, Go.Addr.add, ↓reduceIte] at hx80143_0)
                                                                                  have qi80143 : (2 < t80107.length) = True := eq_true (by omega)
                                                                                  (try rw [show ((2 : Int)).toNat = 2 from rfl] at hx80143_0)
                                                                                  replace p80143 := eq_true p80143
                                                                                  replace q80143 := eq_true q80143
                                                                                  have p80144 : 0 ≤ (2 : Int) := (by omega)
                                                                                  have q80144 : 2 < (t80114.length : Int) := of_decide_eq_true (by first | (with_reducible assumption) | assumption)
                                                                                  obtain ⟨ad80144, e80144, hx80144_0⟩ := Kd.at_string (Kd.R_reads' HO_10.out).2.2 2 p80144 q80144
                                                                                  obtain rfl : ad80140 = ad80144 := (by injection e80144)
                                                                                  (try simp only [show (2 : Int).toNat = 2 from rfl, Nat.reduceMul, Nat.reduceEqDiff, Go.Addr.add, ↓reduceIte] at hx80144_0)
                                                                                  have qi80144 : (2 < t80114.length) = True := eq_true (by omega)
                                                                                  (try rw [show ((2 : Int)).toNat = 2 from rfl] at hx80144_0)
                                                                                  replace p80144 := eq_true p80144
                                                                                  replace q80144 := eq_true q80144
                                                                                  go_wp2
                                                                                  repeat (go_quiet (fail); try go_wp2)
                                                                                  go_ret
                                                                                  exact ⟨by first | rfl | (simp [errW_none, errW_some] <;> rfl) | (simp [*, errW_none, errW_some] <;> rfl), by repeat (first | (with_reducible first | exact HB.out | apply below_alloc | apply pw_below_drewN | apply below_drew1 | refine below_set ?_ GE80106.out) | exact HB.out)⟩
                                                                              · rw [if_neg c90] at H
                                                                                exact absurd H (by simp)
                                                                            · rw [if_neg c89] at H
                                                                              have c89b0 : ((Op.bytesLess ((rdOf ByteArray.empty t80107 1).toList) ((rdOf ByteArray.empty t80114 1).toList)) == (decide (t80101 < t80102))) = false := by simpa using c89
                                                                              (try (have c89b1 : decide ((Op.bytesLess ((rdOf ByteArray.empty t80107 1).toList) ((rdOf ByteArray.empty t80114 1).toList)) = (decide (t80101 < t80102))) = false := by simpa using c89))
                                                                              (try (have c89b2 : ((Op.bytesLess ((rdOf ByteArray.empty t80107 1).toList) ((rdOf ByteArray.empty t80114 1).toList)) == (decide (t80101 < t80102))) = false := by simpa using c89))
                                                                              (try (have c89b3 : ¬ ((Op.bytesLess ((rdOf ByteArray.empty t80107 1).toList) ((rdOf ByteArray.empty t80114 1).toList)) = (decide (t80101 < t80102))) := by simpa using c89))
                                                                              clear c89
                                                                              obtain rfl := Option.some.inj H
                                                                              obtain ⟨Ao97, co97, eo97⟩ := Kd.R_slice HO_8.out
                                                                              subst eo97
                                                                              have p80128 : 0 ≤ (0 : Int) := (by omega)
                                                                              have q80128 : 0 < (t80107.length : Int) := of_decide_eq_true (by first | (with_reducible assumption) | assumption)
                                                                              obtain ⟨ad80128, e80128, hx80128_0⟩ := Kd.at_string (Kd.R_reads' HO_8.out).2.2 0 p80128 q80128
                                                                              cases e80128
                                                                              have qi80128 : (0 < t80107.length) = True := eq_true (by omega)
                                                                              (try rw [show ((0 : Int)).toNat = 0 from rfl] at hx80128_0)
                                                                              (try rw [Addr.add_zero'] at hx80128_0)
                                                                              replace p80128 := eq_true p80128
                                                                              replace q80128 := eq_true q80128
                                                                              have p80129 : 0 ≤ (0 : Int) := (by omega)
                                                                              have q80129 : 0 < (t80107.length : Int) := of_decide_eq_true (by first | (with_reducible assumption) | assumption)
                                                                              obtain ⟨ad80129, e80129, hx80129_0⟩ := Kd.at_string (Kd.R_reads' HO_8.out).2.2 0 p80129 q80129
                                                                              obtain rfl : ad80128 = ad80129 := (by injection e80129)
                                                                              have qi80129 : (0 < t80107.length) = True := eq_true (by omega)
                                                                              (try rw [show ((0 : Int)).toNat = 0 from rfl] at hx80129_0)
                                                                              (try rw [Addr.add_zero'] at hx80129_0)
                                                                              replace p80129 := eq_true p80129
                                                                              replace q80129 := eq_true q80129
                                                                              have p80130 : 0 ≤ (0 : Int) := (by omega)
                                                                              have q80130 : 0 < (t80107.length : Int) := of_decide_eq_true (by first | (with_reducible assumption) | assumption)
                                                                              obtain ⟨ad80130, e80130, hx80130_0⟩ := Kd.at_string (Kd.R_reads' HO_8.out).2.2 0 p80130 q80130
                                                                              obtain rfl : ad80128 = ad80130 := (by injection e80130)
                                                                              have qi80130 : (0 < t80107.length) = True := eq_true (by omega)
                                                                              (try rw [show ((0 : Int)).toNat = 0 from rfl] at hx80130_0)
                                                                              (try rw [Addr.add_zero'] at hx80130_0)
                                                                              replace p80130 := eq_true p80130
                                                                              replace q80130 := eq_true q80130
                                                                              have p80131 : 0 ≤ (2 : Int) := (by omega)
                                                                              have q80131 : 2 < (t80107.length : Int) := of_decide_eq_true (by first | (with_reducible assumption) | assumption)
                                                                              obtain ⟨ad80131, e80131, hx80131_0⟩ := Kd.at_string (Kd.R_reads' HO_8.out).2.2 2 p80131 q80131
                                                                              obtain rfl : ad80128 = ad80131 := (by injection e80131)
                                                                              (try simp only [show (2 : Int).toNat = 2 from rfl, Nat.reduceMul, Nat.reduceEqDiff, Go.Addr.add, ↓reduceIte] at hx80131_0)
                                                                              have qi80131 : (2 < t80107.length) = True := eq_true (by omega)
                                                                              (try rw [show ((2 : Int)).toNat = 2 from rfl] at hx80131_0)
                                                                              replace p80131 := eq_true p80131
                                                                              replace q80131 := eq_true q80131
                                                                              have p80132 : 0 ≤ (2 : Int) := (by omega)
                                                                              have q80132 : 2 < (t80107.length : Int) := of_decide_eq_true (by first | (with_reducible assumption) | assumption)
                                                                              obtain ⟨ad80132, e80132, hx80132_0⟩ := Kd.at_string (Kd.R_reads' HO_8.out).2.2 2 p80132 q80132
                                                                              obtain rfl : ad80128 = ad80132 := (by injection e80132)
                                                                              (try simp only [show (2 : Int).toNat = 2 from rfl, Nat.reduceMul, Nat.reduceEqDiff, Go.Addr.add, ↓reduceIte] at hx80132_0)
                                                                              have qi80132 : (2 < t80107.length) = True := eq_true (by omega)
                                                                              (try rw [show ((2 : Int)).toNat = 2 from rfl] at hx80132_0)
                                                                              replace p80132 := eq_true p80132
                                                                              replace q80132 := eq_true q80132
                                                                              have p80133 : 0 ≤ (4 : Int) := (by omega)
                                                                              have q80133 : 4 < (t80107.length : Int) := of_decide_eq_true (by first | (with_reducible assumption) | assumption)
                                                                              obtain ⟨ad80133, e80133, hx80133_0⟩ := Kd.at_string (Kd.R_reads' HO_8.out).2.2 4 p80133 q80133
                                                                              obtain rfl : ad80128 = ad80133 := (by injection e80133)
                                                                              (try simp only [show (4 : Int).toNat = 4 from rfl, Nat.reduceMul, Nat.reduceEqDiff, Go.Addr.add, ↓reduceIte] at hx80133_0)
                                                                              have qi80133 : (4 < t80107.length) = True := eq_true (by omega)
                                                                              (try rw [show ((4 : Int)).toNat = 4 from rfl] at hx80133_0)
                                                                              replace p80133 := eq_true p80133
                                                                              replace q80133 := eq_true q80133
                                                                              have p80134 : 0 ≤ (4 : Int) := (by omega)
                                                                              have q80134 : 4 < (t80107.length : Int) := of_decide_eq_true (by first | (with_reducible assumption) | assumption)
                                                                              obtain ⟨ad80134, e80134, hx80134_0⟩ := Kd.at_string (Kd.R_reads' HO_8.out).2.2 4 p80134 q80134
                                                                              obtain rfl : ad80128 = ad80134 := (by injection e80134)
                                                                              (try simp only [show (4 : Int).toNat = 4 from rfl, Nat.reduceMul, Nat.reduceEqDiff, Go.Addr.add, ↓reduceIte] at hx80134_0)
                                                                              have qi80134 : (4 < t80107.length) = True := eq_true (by omega)
                                                                              (try rw [show ((4 : Int)).toNat = 4 from rfl] at hx80134_0)
                                                                              replace p80134 := eq_true p80134
                                                                              replace q80134 := eq_true q80134
                                                                              have p80135 : 0 ≤ (4 : Int) := (by omega)
                                                                              have q80135 : 4 < (t80107.length : Int) := of_decide_eq_true (by first | (with_reducible assumption) | assumption)
                                                                              obtain ⟨ad80135, e80135, hx80135_0⟩ := Kd.at_string (Kd.R_reads' HO_8.out).2.2 4 p80135 q80135
                                                                              obtain rfl : ad80128 = ad80135 := (by injection e80135)
                                                                              (try simp only [show (4 : Int).toNat = 4 from rfl, Nat.reduceMul, Nat.reduceEqDiff, Go.Addr.add, ↓reduceIte] at hx80135_0)
                                                                              have qi80135 : (4 < t80107.length) = True := eq_true (by omega)
                                                                              (try rw [show ((4 : Int)).toNat = 4 from rfl] at hx80135_0)
                                                                              replace p80135 := eq_true p80135
                                                                              replace q80135 := eq_true q80135
                                                                              have p80136 : 0 ≤ (1 : Int) := (by omega)
                                                                              have q80136 : 1 < (t80107.length : Int) := of_decide_eq_true (by first | (with_reducible assumption) | assumption)
                                                                              obtain ⟨ad80136, e80136, hx80136_0⟩ := Kd.at_string (Kd.R_reads' HO_8.out).2.2 1 p80136 q80136
                                                                              obtain rfl : ad80128 = ad80136 := (by injection e80136)
                                                                              (try simp only [show (1 : Int).toNat = 1 from rfl, Nat.reduceMul, Nat.reduceEqDiff, Go.Addr.add, ↓reduceIte] at hx80136_0)
                                                                              have qi80136 : (1 < t80107.length) = True := eq_true (by omega)
                                                                              (try rw [show ((1 : Int)).toNat = 1 from rfl] at hx80136_0)
                                                                              replace p80136 := eq_true p80136
                                                                              replace q80136 := eq_true q80136
                                                                              have p80137 : 0 ≤ (3 : Int) := (by omega)
                                                                              have q80137 : 3 < (t80107.length : Int) := of_decide_eq_true (by first | (with_reducible assumption) | assumption)
                                                                              obtain ⟨ad80137, e80137, hx80137_0⟩ := Kd.at_string (Kd.R_reads' HO_8.out).2.2 3 p80137 q80137
                                                                              obtain rfl : ad80128 = ad80137 := (by injection e80137)
                                                                              (try simp only [show (3 : Int).toNat = 3 from rfl, Nat.reduceMul, Nat.reduceEqDiff, Go.Addr.add, ↓reduceIte] at hx80137_0)
                                                                              have qi80137 : (3 < t80107.length) = True := eq_true (by omega)
                                                                              (try rw [show ((3 : Int)).toNat = 3 from rfl] at hx80137_0)
                                                                              replace p80137 := eq_true p80137
                                                                              replace q80137 := eq_true q80137
                                                                              have p80138 : 0 ≤ (5 : Int) := (by omega)
                                                                              have q80138 : 5 < (t80107.length : Int) := of_decide_eq_true (by first | (with_reducible assumption) | assumption)
                                                                              obtain ⟨ad80138, e80138, hx80138_0⟩ := Kd.at_string (Kd.R_reads' HO_8.out).2.2 5 p80138 q80138
                                                                              obtain rfl : ad80128 = ad80138 := (by injection e80138)
                                                                              (try simp only [show (5 : Int).toNat = 5 from rfl, Nat.reduceMul, Nat.reduceEqDiff, Go.Addr.add, ↓reduceIte] at hx80138_0)
                                                                              have qi80138 : (5 < t80107.length) = True := eq_true (by omega)
                                                                              (try rw [show ((5 : Int)).toNat = 5 from rfl] at hx80138_0)
                                                                              replace p80138 := eq_true p80138
                                                                              replace q80138 := eq_true q80138
                                                                              have p80139 : 0 ≤ (0 : Int) := (by omega)
                                                                              have q80139 : 0 < (t80107.length : Int) := of_decide_eq_true (by first | (with_reducible assumption) | assumption)
                                                                              obtain ⟨ad80139, e80139, hx80139_0⟩ := Kd.at_string (Kd.R_reads' HO_8.out).2.2 0 p80139 q80139
                                                                              obtain rfl : ad80128 = ad80139 := (by injection e80139)
                                                                              have qi80139 : (0 < t80107.length) = True := eq_true (by omega)
                                                                              (try rw [show ((0 : Int)).toNat = 0 from rfl] at hx80139_0)
                                                                              (try rw [Addr.add_zero'] at hx80139_0)
                                                                              replace p80139 := eq_true p80139
                                                                              replace q80139 := eq_true q80139
                                                                              obtain ⟨Ao98, co98, eo98⟩ := Kd.R_slice HO_10.out
                                                                              subst eo98
                                                                              have p80140 : 0 ≤ (0 : Int) := (by omega)
                                                                              have q80140 : 0 < (t80114.length : Int) := of_decide_eq_true (by first | (with_reducible assumption) | assumption)
                                                                              obtain ⟨ad80140, e80140, hx80140_0⟩ := Kd.at_string (Kd.R_reads' HO_10.out).2.2 0 p80140 q80140
                                                                              cases e80140
                                                                              have qi80140 : (0 < t80114.length) = True := eq_true (by omega)
                                                                              (try rw [show ((0 : Int)).toNat = 0 from rfl] at hx80140_0)
                                                                              (try rw [Addr.add_zero'] at hx80140_0)
                                                                              replace p80140 := eq_true p80140
                                                                              replace q80140 := eq_true q80140
                                                                              have p80141 : 0 ≤ (1 : Int) := (by omega)
                                                                              have q80141 : 1 < (t80107.length : Int) := of_decide_eq_true (by first | (with_reducible assumption) | assumption)
                                                                              obtain ⟨ad80141, e80141, hx80141_0⟩ := Kd.at_string (Kd.R_reads' HO_8.out).2.2 1 p80141 q80141
                                                                              obtain rfl : ad80128 = ad80141 := (by injection e80141)
                                                                              (try simp only [show (1 : Int).toNat = 1 from rfl, Nat.reduceMul, Nat.reduceEqDiff, Go.Addr.add, ↓reduceIte] at hx80141_0)
                                                                              have qi80141 : (1 < t80107.length) = True := eq_true (by omega)
                                                                              (try rw [show ((1 : Int)).toNat = 1 from rfl] at hx80141_0)
                                                                              replace p80141 := eq_true p80141
                                                                              replace q80141 := eq_true q80141
                                                                              have p80142 : 0 ≤ (1 : Int) := (by omega)
                                                                              have q80142 : 1 < (t80114.length : Int) := of_decide_eq_true (by first | (with_reducible assumption) | assumption)
                                                                              obtain ⟨ad80142, e80142, hx80142_0⟩ := Kd.at_string (Kd.R_reads' HO_10.out).2.2 1 p80142 q80142
                                                                              obtain rfl : ad80140 = ad80142 := (by injection e80142)
                                                                              (try simp only [show (1 : Int).toNat = 1 from rfl, Nat.reduceMul, Nat.reduceEqDiff, Go.Addr.add, ↓reduceIte] at hx80142_0)
                                                                              have qi80142 : (1 < t80114.length) = True := eq_true (by omega)
                                                                              (try rw [show ((1 : Int)).toNat = 1 from rfl] at hx80142_0)
                                                                              replace p80142 := eq_true p80142
                                                                              replace q80142 := eq_true q80142
                                                                              go_wp2
                                                                              repeat (go_quiet (fail); try go_wp2)
                                                                              go_ret
                                                                              exact ⟨by first | rfl | (simp [errW_none, errW_some] <;> rfl) | (simp [*, errW_none, errW_some] <;> rfl), by repeat (first | (with_reducible first | exact HB.out | apply below_alloc | apply pw_below_drewN | apply below_drew1 | refine below_set ?_ GE80106.out) | exact HB.out)⟩
                                                                          · rw [if_neg c88] at H
                                                                            exact absurd H (by simp)
                                                                        · rw [if_neg c87] at H
                                                                          have c87b0 : ((Op.bytesLess ((rdOf ByteArray.empty t80107 0).toList) ((rdOf ByteArray.empty t80114 0).toList)) == (decide (t80101 < t80102))) = false := by simpa using c87
                                                                          (try (have c87b1 : decide ((Op.bytesLess ((rdOf ByteArray.empty t80107 0).toList) ((rdOf ByteArray.empty t80114 0).toList)) = (decide (t80101 < t80102))) = false := by simpa using c87))
                                                                          (try (have c87b2 : ((Op.bytesLess ((rdOf ByteArray.empty t80107 0).toList) ((rdOf ByteArray.empty t80114 0).toList)) == (decide (t80101 < t80102))) = false := by simpa using c87))
                                                                          (try (have c87b3 : ¬ ((Op.bytesLess ((rdOf ByteArray.empty t80107 0).toList) ((rdOf ByteArray.empty t80114 0).toList)) = (decide (t80101 < t80102))) := by simpa using c87))
                                                                          clear c87
                                                                          obtain rfl := Option.some.inj H
                                                                          obtain ⟨Ao99, co99, eo99⟩ := Kd.R_slice HO_8.out
                                                                          subst eo99
                                                                          have p80128 : 0 ≤ (0 : Int) := (by omega)
                                                                          have q80128 : 0 < (t80107.length : Int) := of_decide_eq_true (by first | (with_reducible assumption) | assumption)
                                                                          obtain ⟨ad80128, e80128, hx80128_0⟩ := Kd.at_string (Kd.R_reads' HO_8.out).2.2 0 p80128 q80128
                                                                          cases e80128
                                                                          have qi80128 : (0 < t80107.length) = True := eq_true (by omega)
                                                                          (try rw [show ((0 : Int)).toNat = 0 from rfl] at hx80128_0)
                                                                          (try rw [Addr.add_zero'] at hx80128_0)
                                                                          replace p80128 := eq_true p80128
                                                                          replace q80128 := eq_true q80128
                                                                          have p80129 : 0 ≤ (0 : Int) := (by omega)
                                                                          have q80129 : 0 < (t80107.length : Int) := of_decide_eq_true (by first | (with_reducible assumption) | assumption)
                                                                          obtain ⟨ad80129, e80129, hx80129_0⟩ := Kd.at_string (Kd.R_reads' HO_8.out).2.2 0 p80129 q80129
                                                                          obtain rfl : ad80128 = ad80129 := (by injection e80129)
                                                                          have qi80129 : (0 < t80107.length) = True := eq_true (by omega)
                                                                          (try rw [show ((0 : Int)).toNat = 0 from rfl] at hx80129_0)
                                                                          (try rw [Addr.add_zero'] at hx80129_0)
                                                                          replace p80129 := eq_true p80129
                                                                          replace q80129 := eq_true q80129
                                                                          have p80130 : 0 ≤ (0 : Int) := (by omega)
                                                                          have q80130 : 0 < (t80107.length : Int) := of_decide_eq_true (by first | (with_reducible assumption) | assumption)
                                                                          obtain ⟨ad80130, e80130, hx80130_0⟩ := Kd.at_string (Kd.R_reads' HO_8.out).2.2 0 p80130 q80130
                                                                          obtain rfl : ad80128 = ad80130 := (by injection e80130)
                                                                          have qi80130 : (0 < t80107.length) = True := eq_true (by omega)
                                                                          (try rw [show ((0 : Int)).toNat = 0 from rfl] at hx80130_0)
                                                                          (try rw [Addr.add_zero'] at hx80130_0)
                                                                          replace p80130 := eq_true p80130
                                                                          replace q80130 := eq_true q80130
                                                                          have p80131 : 0 ≤ (2 : Int) := (by omega)
                                                                          have q80131 : 2 < (t80107.length : Int) := of_decide_eq_true (by first | (with_reducible assumption) | assumption)
                                                                          obtain ⟨ad80131, e80131, hx80131_0⟩ := Kd.at_string (Kd.R_reads' HO_8.out).2.2 2 p80131 q80131
                                                                          obtain rfl : ad80128 = ad80131 := (by injection e80131)
                                                                          (try simp only [show (2 : Int).toNat = 2 from rfl, Nat.reduceMul, Nat.reduceEqDiff, Go.Addr.add, ↓reduceIte] at hx80131_0)
                                                                          have qi80131 : (2 < t80107.length) = True := eq_true (by omega)
                                                                          (try rw [show ((2 : Int)).toNat = 2 from rfl] at hx80131_0)
                                                                          replace p80131 := eq_true p80131
                                                                          replace q80131 := eq_true q80131
                                                                          have p80132 : 0 ≤ (2 : Int) := (by omega)
                                                                          have q80132 : 2 < (t80107.length : Int) := of_decide_eq_true (by first | (with_reducible assumption) | assumption)
                                                                          obtain ⟨ad80132, e80132, hx80132_0⟩ := Kd.at_string (Kd.R_reads' HO_8.out).2.2 2 p80132 q80132
                                                                          obtain rfl : ad80128 = ad80132 := (by injection e80132)
                                                                          (try simp only [show (2 : Int).toNat = 2 from rfl, Nat.reduceMul, Nat.reduceEqDiff, Go.Addr.add, ↓reduceIte] at hx80132_0)
                                                                          have qi80132 : (2 < t80107.length) = True := eq_true (by omega)
                                                                          (try rw [show ((2 : Int)).toNat = 2 from rfl] at hx80132_0)
                                                                          replace p80132 := eq_true p80132
                                                                          replace q80132 := eq_true q80132
                                                                          have p80133 : 0 ≤ (4 : Int) := (by omega)
                                                                          have q80133 : 4 < (t80107.length : Int) := of_decide_eq_true (by first | (with_reducible assumption) | assumption)
                                                                          obtain ⟨ad80133, e80133, hx80133_0⟩ := Kd.at_string (Kd.R_reads' HO_8.out).2.2 4 p80133 q80133
                                                                          obtain rfl : ad80128 = ad80133 := (by injection e80133)
                                                                          (try simp only [show (4 : Int).toNat = 4 from rfl, Nat.reduceMul, Nat.reduceEqDiff, Go.Addr.add, ↓reduceIte] at hx80133_0)
                                                                          have qi80133 : (4 < t80107.length) = True := eq_true (by omega)
                                                                          (try rw [show ((4 : Int)).toNat = 4 from rfl] at hx80133_0)
                                                                          replace p80133 := eq_true p80133
                                                                          replace q80133 := eq_true q80133
                                                                          have p80134 : 0 ≤ (4 : Int) := (by omega)
                                                                          have q80134 : 4 < (t80107.length : Int) := of_decide_eq_true (by first | (with_reducible assumption) | assumption)
                                                                          obtain ⟨ad80134, e80134, hx80134_0⟩ := Kd.at_string (Kd.R_reads' HO_8.out).2.2 4 p80134 q80134
                                                                          obtain rfl : ad80128 = ad80134 := (by injection e80134)
                                                                          (try simp only [show (4 : Int).toNat = 4 from rfl, Nat.reduceMul, Nat.reduceEqDiff, Go.Addr.add, ↓reduceIte] at hx80134_0)
                                                                          have qi80134 : (4 < t80107.length) = True := eq_true (by omega)
                                                                          (try rw [show ((4 : Int)).toNat = 4 from rfl] at hx80134_0)
                                                                          replace p80134 := eq_true p80134
                                                                          replace q80134 := eq_true q80134
                                                                          have p80135 : 0 ≤ (4 : Int) := (by omega)
                                                                          have q80135 : 4 < (t80107.length : Int) := of_decide_eq_true (by first | (with_reducible assumption) | assumption)
                                                                          obtain ⟨ad80135, e80135, hx80135_0⟩ := Kd.at_string (Kd.R_reads' HO_8.out).2.2 4 p80135 q80135
                                                                          obtain rfl : ad80128 = ad80135 := (by injection e80135)
                                                                          (try simp only [show (4 : Int).toNat = 4 from rfl, Nat.reduceMul, Nat.reduceEqDiff, Go.Addr.add, ↓reduceIte] at hx80135_0)
                                                                          have qi80135 : (4 < t80107.length) = True := eq_true (by omega)
                                                                          (try rw [show ((4 : Int)).toNat = 4 from rfl] at hx80135_0)
                                                                          replace p80135 := eq_true p80135
                                                                          replace q80135 := eq_true q80135
                                                                          have p80136 : 0 ≤ (1 : Int) := (by omega)
                                                                          have q80136 : 1 < (t80107.length : Int) := of_decide_eq_true (by first | (with_reducible assumption) | assumption)
                                                                          obtain ⟨ad80136, e80136, hx80136_0⟩ := Kd.at_string (Kd.R_reads' HO_8.out).2.2 1 p80136 q80136
                                                                          obtain rfl : ad80128 = ad80136 := (by injection e80136)
                                                                          (try simp only [show (1 : Int).toNat = 1 from rfl, Nat.reduceMul, Nat.reduceEqDiff, Go.Addr.add, ↓reduceIte] at hx80136_0)
                                                                          have qi80136 : (1 < t80107.length) = True := eq_true (by omega)
                                                                          (try rw [show ((1 : Int)).toNat = 1 from rfl] at hx80136_0)
                                                                          replace p80136 := eq_true p80136
                                                                          replace q80136 := eq_true q80136
                                                                          have p80137 : 0 ≤ (3 : Int) := (by omega)
                                                                          have q80137 : 3 < (t80107.length : Int) := of_decide_eq_true (by first | (with_reducible assumption) | assumption)
                                                                          obtain ⟨ad80137, e80137, hx80137_0⟩ := Kd.at_string (Kd.R_reads' HO_8.out).2.2 3 p80137 q80137
                                                                          obtain rfl : ad80128 = ad80137 := (by injection e80137)
                                                                          (try simp only [show (3 : Int).toNat = 3 from rfl, Nat.reduceMul, Nat.reduceEqDiff, Go.Addr.add, ↓reduceIte] at hx80137_0)
                                                                          have qi80137 : (3 < t80107.length) = True := eq_true (by omega)
                                                                          (try rw [show ((3 : Int)).toNat = 3 from rfl] at hx80137_0)
                                                                          replace p80137 := eq_true p80137
                                                                          replace q80137 := eq_true q80137
                                                                          have p80138 : 0 ≤ (5 : Int) := (by omega)
                                                                          have q80138 : 5 < (t80107.length : Int) := of_decide_eq_true (by first | (with_reducible assumption) | assumption)
                                                                          obtain ⟨ad80138, e80138, hx80138_0⟩ := Kd.at_string (Kd.R_reads' HO_8.out).2.2 5 p80138 q80138
                                                                          obtain rfl : ad80128 = ad80138 := (by injection e80138)
                                                                          (try simp only [show (5 : Int).toNat = 5 from rfl, Nat.reduceMul, Nat.reduceEqDiff, Go.Addr.add, ↓reduceIte] at hx80138_0)
                                                                          have qi80138 : (5 < t80107.length) = True := eq_true (by omega)
                                                                          (try rw [show ((5 : Int)).toNat = 5 from rfl] at hx80138_0)
                                                                          replace p80138 := eq_true p80138
                                                                          replace q80138 := eq_true q80138
                                                                          have p80139 : 0 ≤ (0 : Int) := (by omega)
                                                                          have q80139 : 0 < (t80107.length : Int) := of_decide_eq_true (by first | (with_reducible assumption) | assumption)
                                                                          obtain ⟨ad80139, e80139, hx80139_0⟩ := Kd.at_string (Kd.R_reads' HO_8.out).2.2 0 p80139 q80139
                                                                          obtain rfl : ad80128 = ad80139 := (by injection e80139)
                                                                          have qi80139 : (0 < t80107.length) = True := eq_true (by omega)
                                                                          (try rw [show ((0 : Int)).toNat = 0 from rfl] at hx80139_0)
                                                                          (try rw [Addr.add_zero'] at hx80139_0)
                                                                          replace p80139 := eq_true p80139
                                                                          replace q80139 := eq_true q80139
                                                                          obtain ⟨Ao100, co100, eo100⟩ := Kd.R_slice HO_10.out
                                                                          subst eo100
                                                                          have p80140 : 0 ≤ (0 : Int) := (by omega)
                                                                          have q80140 : 0 < (t80114.length : Int) := of_decide_eq_true (by first | (with_reducible assumption) | assumption)
                                                                          obtain ⟨ad80140, e80140, hx80140_0⟩ := Kd.at_string (Kd.R_reads' HO_10.out).2.2 0 p80140 q80140
                                                                          cases e80140
                                                                          have qi80140 : (0 < t80114.length) = True := eq_true (by omega)
                                                                          (try rw [show ((0 : Int)).toNat = 0 from rfl] at hx80140_0)
                                                                          (try rw [Addr.add_zero'] at hx80140_0)
                                                                          replace p80140 := eq_true p80140
                                                                          replace q80140 := eq_true q80140
                                                                          go_wp2
                                                                          repeat (go_quiet (fail); try go_wp2)
                                                                          go_ret
                                                                          exact ⟨by first | rfl | (simp [errW_none, errW_some] <;> rfl) | (simp [*, errW_none, errW_some] <;> rfl), by repeat (first | (with_reducible first | exact HB.out | apply below_alloc | apply pw_below_drewN | apply below_drew1 | refine below_set ?_ GE80106.out) | exact HB.out)⟩
                                                                      · rw [if_neg c86] at H
                                                                        exact absurd H (by simp)
                                                                    · rw [if_neg c85] at H
                                                                      have c85b0 : ((rdOf ByteArray.empty t80107 5).toList == ((((rdOf ByteArray.empty t80107 4).extract 0 4) ++ ((rdOf ByteArray.empty t80107 4).extract 5 8)) ++ ((rdOf ByteArray.empty t80107 4).extract 9 (rdOf ByteArray.empty t80107 4).size)).toList) = false := beq_eq_false_iff_ne.mpr c85
                                                                      have c85b1 : ((rdOf ByteArray.empty t80107 5).toList != ((((rdOf ByteArray.empty t80107 4).extract 0 4) ++ ((rdOf ByteArray.empty t80107 4).extract 5 8)) ++ ((rdOf ByteArray.empty t80107 4).extract 9 (rdOf ByteArray.empty t80107 4).size)).toList) = true := bne_iff_ne.mpr c85
                                                                      obtain rfl := Option.some.inj H
                                                                      obtain ⟨Ao101, co101, eo101⟩ := Kd.R_slice HO_8.out
                                                                      subst eo101
                                                                      have p80128 : 0 ≤ (0 : Int) := (by omega)
                                                                      have q80128 : 0 < (t80107.length : Int) := of_decide_eq_true (by first | (with_reducible assumption) | assumption)
                                                                      obtain ⟨ad80128, e80128, hx80128_0⟩ := Kd.at_string (Kd.R_reads' HO_8.out).2.2 0 p80128 q80128
                                                                      cases e80128
                                                                      have qi80128 : (0 < t80107.length) = True := eq_true (by omega)
                                                                      (try rw [show ((0 : Int)).toNat = 0 from rfl] at hx80128_0)
                                                                      (try rw [Addr.add_zero'] at hx80128_0)
                                                                      replace p80128 := eq_true p80128
                                                                      replace q80128 := eq_true q80128
                                                                      have p80129 : 0 ≤ (0 : Int) := (by omega)
                                                                      have q80129 : 0 < (t80107.length : Int) := of_decide_eq_true (by first | (with_reducible assumption) | assumption)
                                                                      obtain ⟨ad80129, e80129, hx80129_0⟩ := Kd.at_string (Kd.R_reads' HO_8.out).2.2 0 p80129 q80129
                                                                      obtain rfl : ad80128 = ad80129 := (by injection e80129)
                                                                      have qi80129 : (0 < t80107.length) = True := eq_true (by omega)
                                                                      (try rw [show ((0 : Int)).toNat = 0 from rfl] at hx80129_0)
                                                                      (try rw [Addr.add_zero'] at hx80129_0)
                                                                      replace p80129 := eq_true p80129
                                                                      replace q80129 := eq_true q80129
                                                                      have p80130 : 0 ≤ (0 : Int) := (by omega)
                                                                      have q80130 : 0 < (t80107.length : Int) := of_decide_eq_true (by first | (with_reducible assumption) | assumption)
                                                                      obtain ⟨ad80130, e80130, hx80130_0⟩ := Kd.at_string (Kd.R_reads' HO_8.out).2.2 0 p80130 q80130
                                                                      obtain rfl : ad80128 = ad80130 := (by injection e80130)
                                                                      have qi80130 : (0 < t80107.length) = True := eq_true (by omega)
                                                                      (try rw [show ((0 : Int)).toNat = 0 from rfl] at hx80130_0)
                                                                      (try rw [Addr.add_zero'] at hx80130_0)
                                                                      replace p80130 := eq_true p80130
                                                                      replace q80130 := eq_true q80130
                                                                      have p80131 : 0 ≤ (2 : Int) := (by omega)
                                                                      have q80131 : 2 < (t80107.length : Int) := of_decide_eq_true (by first | (with_reducible assumption) | assumption)
                                                                      obtain ⟨ad80131, e80131, hx80131_0⟩ := Kd.at_string (Kd.R_reads' HO_8.out).2.2 2 p80131 q80131
                                                                      obtain rfl : ad80128 = ad80131 := (by injection e80131)
                                                                      (try simp only [show (2 : Int).toNat = 2 from rfl, Nat.reduceMul, Nat.reduceEqDiff, Go.Addr.add, ↓reduceIte] at hx80131_0)
                                                                      have qi80131 : (2 < t80107.length) = True := eq_true (by omega)
                                                                      (try rw [show ((2 : Int)).toNat = 2 from rfl] at hx80131_0)
                                                                      replace p80131 := eq_true p80131
                                                                      replace q80131 := eq_true q80131
                                                                      have p80132 : 0 ≤ (2 : Int) := (by omega)
                                                                      have q80132 : 2 < (t80107.length : Int) := of_decide_eq_true (by first | (with_reducible assumption) | assumption)
                                                                      obtain ⟨ad80132, e80132, hx80132_0⟩ := Kd.at_string (Kd.R_reads' HO_8.out).2.2 2 p80132 q80132
                                                                      obtain rfl : ad80128 = ad80132 := (by injection e80132)
                                                                      (try simp only [show (2 : Int).toNat = 2 from rfl, Nat.reduceMul, Nat.reduceEqDiff, Go.Addr.add, ↓reduceIte] at hx80132_0)
                                                                      have qi80132 : (2 < t80107.length) = True := eq_true (by omega)
                                                                      (try rw [show ((2 : Int)).toNat = 2 from rfl] at hx80132_0)
                                                                      replace p80132 := eq_true p80132
                                                                      replace q80132 := eq_true q80132
                                                                      have p80133 : 0 ≤ (4 : Int) := (by omega)
                                                                      have q80133 : 4 < (t80107.length : Int) := of_decide_eq_true (by first | (with_reducible assumption) | assumption)
                                                                      obtain ⟨ad80133, e80133, hx80133_0⟩ := Kd.at_string (Kd.R_reads' HO_8.out).2.2 4 p80133 q80133
                                                                      obtain rfl : ad80128 = ad80133 := (by injection e80133)
                                                                      (try simp only [show (4 : Int).toNat = 4 from rfl, Nat.reduceMul, Nat.reduceEqDiff, Go.Addr.add, ↓reduceIte] at hx80133_0)
                                                                      have qi80133 : (4 < t80107.length) = True := eq_true (by omega)
                                                                      (try rw [show ((4 : Int)).toNat = 4 from rfl] at hx80133_0)
                                                                      replace p80133 := eq_true p80133
                                                                      replace q80133 := eq_true q80133
                                                                      have p80134 : 0 ≤ (4 : Int) := (by omega)
                                                                      have q80134 : 4 < (t80107.length : Int) := of_decide_eq_true (by first | (with_reducible assumption) | assumption)
                                                                      obtain ⟨ad80134, e80134, hx80134_0⟩ := Kd.at_string (Kd.R_reads' HO_8.out).2.2 4 p80134 q80134
                                                                      obtain rfl : ad80128 = ad80134 := (by injection e80134)
                                                                      (try simp only [show (4 : Int).toNat = 4 from rfl, Nat.reduceMul, Nat.reduceEqDiff, Go.Addr.add, ↓reduceIte] at hx80134_0)
                                                                      have qi80134 : (4 < t80107.length) = True := eq_true (by omega)
                                                                      (try rw [show ((4 : Int)).toNat = 4 from rfl] at hx80134_0)
                                                                      replace p80134 := eq_true p80134
                                                                      replace q80134 := eq_true q80134
                                                                      have p80135 : 0 ≤ (4 : Int) := (by omega)
                                                                      have q80135 : 4 < (t80107.length : Int) := of_decide_eq_true (by first | (with_reducible assumption) | assumption)
                                                                      obtain ⟨ad80135, e80135, hx80135_0⟩ := Kd.at_string (Kd.R_reads' HO_8.out).2.2 4 p80135 q80135
                                                                      obtain rfl : ad80128 = ad80135 := (by injection e80135)
                                                                      (try simp only [show (4 : Int).toNat = 4 from rfl, Nat.reduceMul, Nat.reduceEqDiff, Go.Addr.add, ↓reduceIte] at hx80135_0)
                                                                      have qi80135 : (4 < t80107.length) = True := eq_true (by omega)
                                                                      (try rw [show ((4 : Int)).toNat = 4 from rfl] at hx80135_0)
                                                                      replace p80135 := eq_true p80135
                                                                      replace q80135 := eq_true q80135
                                                                      have p80136 : 0 ≤ (1 : Int) := (by omega)
                                                                      have q80136 : 1 < (t80107.length : Int) := of_decide_eq_true (by first | (with_reducible assumption) | assumption)
                                                                      obtain ⟨ad80136, e80136, hx80136_0⟩ := Kd.at_string (Kd.R_reads' HO_8.out).2.2 1 p80136 q80136
                                                                      obtain rfl : ad80128 = ad80136 := (by injection e80136)
                                                                      (try simp only [show (1 : Int).toNat = 1 from rfl, Nat.reduceMul, Nat.reduceEqDiff, Go.Addr.add, ↓reduceIte] at hx80136_0)
                                                                      have qi80136 : (1 < t80107.length) = True := eq_true (by omega)
                                                                      (try rw [show ((1 : Int)).toNat = 1 from rfl] at hx80136_0)
                                                                      replace p80136 := eq_true p80136
                                                                      replace q80136 := eq_true q80136
                                                                      have p80137 : 0 ≤ (3 : Int) := (by omega)
                                                                      have q80137 : 3 < (t80107.length : Int) := of_decide_eq_true (by first | (with_reducible assumption) | assumption)
                                                                      obtain ⟨ad80137, e80137, hx80137_0⟩ := Kd.at_string (Kd.R_reads' HO_8.out).2.2 3 p80137 q80137
                                                                      obtain rfl : ad80128 = ad80137 := (by injection e80137)
                                                                      (try simp only [show (3 : Int).toNat = 3 from rfl, Nat.reduceMul, Nat.reduceEqDiff, Go.Addr.add, ↓reduceIte] at hx80137_0)
                                                                      have qi80137 : (3 < t80107.length) = True := eq_true (by omega)
                                                                      (try rw [show ((3 : Int)).toNat = 3 from rfl] at hx80137_0)
                                                                      replace p80137 := eq_true p80137
                                                                      replace q80137 := eq_true q80137
                                                                      have p80138 : 0 ≤ (5 : Int) := (by omega)
                                                                      have q80138 : 5 < (t80107.length : Int) := of_decide_eq_true (by first | (with_reducible assumption) | assumption)
                                                                      obtain ⟨ad80138, e80138, hx80138_0⟩ := Kd.at_string (Kd.R_reads' HO_8.out).2.2 5 p80138 q80138
                                                                      obtain rfl : ad80128 = ad80138 := (by injection e80138)
                                                                      (try simp only [show (5 : Int).toNat = 5 from rfl, Nat.reduceMul, Nat.reduceEqDiff, Go.Addr.add, ↓reduceIte] at hx80138_0)
                                                                      have qi80138 : (5 < t80107.length) = True := eq_true (by omega)
                                                                      (try rw [show ((5 : Int)).toNat = 5 from rfl] at hx80138_0)
                                                                      replace p80138 := eq_true p80138
                                                                      replace q80138 := eq_true q80138
                                                                      go_wp2
                                                                      repeat (go_quiet (fail); try go_wp2)
                                                                      go_ret
                                                                      exact ⟨by first | rfl | (simp [errW_none, errW_some] <;> rfl) | (simp [*, errW_none, errW_some] <;> rfl), by repeat (first | (with_reducible first | exact HB.out | apply below_alloc | apply pw_below_drewN | apply below_drew1 | refine below_set ?_ GE80106.out) | exact HB.out)⟩
                                                                  · rw [if_neg c84] at H
                                                                    exact absurd H (by simp)
                                                                · rw [if_neg c83] at H
                                                                  have c83b0 : ((rdOf ByteArray.empty t80107 3).toList == (((rdOf ByteArray.empty t80107 2).extract 0 4) ++ ((rdOf ByteArray.empty t80107 2).extract 5 (rdOf ByteArray.empty t80107 2).size)).toList) = false := beq_eq_false_iff_ne.mpr c83
                                                                  have c83b1 : ((rdOf ByteArray.empty t80107 3).toList != (((rdOf ByteArray.empty t80107 2).extract 0 4) ++ ((rdOf ByteArray.empty t80107 2).extract 5 (rdOf ByteArray.empty t80107 2).size)).toList) = true := bne_iff_ne.mpr c83
                                                                  obtain rfl := Option.some.inj H
                                                                  obtain ⟨Ao102, co102, eo102⟩ := Kd.R_slice HO_8.out
                                                                  subst eo102
                                                                  have p80128 : 0 ≤ (0 : Int) := (by omega)
                                                                  have q80128 : 0 < (t80107.length : Int) := of_decide_eq_true (by first | (with_reducible assumption) | assumption)
                                                                  obtain ⟨ad80128, e80128, hx80128_0⟩ := Kd.at_string (Kd.R_reads' HO_8.out).2.2 0 p80128 q80128
                                                                  cases e80128
                                                                  have qi80128 : (0 < t80107.length) = True := eq_true (by omega)
                                                                  (try rw [show ((0 : Int)).toNat = 0 from rfl] at hx80128_0)
                                                                  (try rw [Addr.add_zero'] at hx80128_0)
                                                                  replace p80128 := eq_true p80128
                                                                  replace q80128 := eq_true q80128
                                                                  have p80129 : 0 ≤ (0 : Int) := (by omega)
                                                                  have q80129 : 0 < (t80107.length : Int) := of_decide_eq_true (by first | (with_reducible assumption) | assumption)
                                                                  obtain ⟨ad80129, e80129, hx80129_0⟩ := Kd.at_string (Kd.R_reads' HO_8.out).2.2 0 p80129 q80129
                                                                  obtain rfl : ad80128 = ad80129 := (by injection e80129)
                                                                  have qi80129 : (0 < t80107.length) = True := eq_true (by omega)
                                                                  (try rw [show ((0 : Int)).toNat = 0 from rfl] at hx80129_0)
                                                                  (try rw [Addr.add_zero'] at hx80129_0)
                                                                  replace p80129 := eq_true p80129
                                                                  replace q80129 := eq_true q80129
                                                                  have p80130 : 0 ≤ (0 : Int) := (by omega)
                                                                  have q80130 : 0 < (t80107.length : Int) := of_decide_eq_true (by first | (with_reducible assumption) | assumption)
                                                                  obtain ⟨ad80130, e80130, hx80130_0⟩ := Kd.at_string (Kd.R_reads' HO_8.out).2.2 0 p80130 q80130
                                                                  obtain rfl : ad80128 = ad80130 := (by injection e80130)
                                                                  have qi80130 : (0 < t80107.length) = True := eq_true (by omega)
                                                                  (try rw [show ((0 : Int)).toNat = 0 from rfl] at hx80130_0)
                                                                  (try rw [Addr.add_zero'] at hx80130_0)
                                                                  replace p80130 := eq_true p80130
                                                                  replace q80130 := eq_true q80130
                                                                  have p80131 : 0 ≤ (2 : Int) := (by omega)
                                                                  have q80131 : 2 < (t80107.length : Int) := of_decide_eq_true (by first | (with_reducible assumption) | assumption)
                                                                  obtain ⟨ad80131, e80131, hx80131_0⟩ := Kd.at_string (Kd.R_reads' HO_8.out).2.2 2 p80131 q80131
                                                                  obtain rfl : ad80128 = ad80131 := (by injection e80131)
                                                                  (try simp only [show (2 : Int).toNat = 2 from rfl, Nat.reduceMul, Nat.reduceEqDiff, Go.Addr.add, ↓reduceIte] at hx80131_0)
                                                                  have qi80131 : (2 < t80107.length) = True := eq_true (by omega)
                                                                  (try rw [show ((2 : Int)).toNat = 2 from rfl] at hx80131_0)
                                                                  replace p80131 := eq_true p80131
                                                                  replace q80131 := eq_true q80131
                                                                  have p80132 : 0 ≤ (2 : Int) := (by omega)
                                                                  have q80132 : 2 < (t80107.length : Int) := of_decide_eq_true (by first | (with_reducible assumption) | assumption)
                                                                  obtain ⟨ad80132, e80132, hx80132_0⟩ := Kd.at_string (Kd.R_reads' HO_8.out).2.2 2 p80132 q80132
                                                                  obtain rfl : ad80128 = ad80132 := (by injection e80132)
                                                                  (try simp only [show (2 : Int).toNat = 2 from rfl, Nat.reduceMul, Nat.reduceEqDiff, Go.Addr.add, ↓reduceIte] at hx80132_0)
                                                                  have qi80132 : (2 < t80107.length) = True := eq_true (by omega)
                                                                  (try rw [show ((2 : Int)).toNat = 2 from rfl] at hx80132_0)
                                                                  replace p80132 := eq_true p80132
                                                                  replace q80132 := eq_true q80132
                                                                  have p80133 : 0 ≤ (4 : Int) := (by omega)
                                                                  have q80133 : 4 < (t80107.length : Int) := of_decide_eq_true (by first | (with_reducible assumption) | assumption)
                                                                  obtain ⟨ad80133, e80133, hx80133_0⟩ := Kd.at_string (Kd.R_reads' HO_8.out).2.2 4 p80133 q80133
                                                                  obtain rfl : ad80128 = ad80133 := (by injection e80133)
                                                                  (try simp only [show (4 : Int).toNat = 4 from rfl, Nat.reduceMul, Nat.reduceEqDiff, Go.Addr.add, ↓reduceIte] at hx80133_0)
                                                                  have qi80133 : (4 < t80107.length) = True := eq_true (by omega)
                                                                  (try rw [show ((4 : Int)).toNat = 4 from rfl] at hx80133_0)
                                                                  replace p80133 := eq_true p80133
                                                                  replace q80133 := eq_true q80133
                                                                  have p80134 : 0 ≤ (4 : Int) := (by omega)
                                                                  have q80134 : 4 < (t80107.length : Int) := of_decide_eq_true (by first | (with_reducible assumption) | assumption)
                                                                  obtain ⟨ad80134, e80134, hx80134_0⟩ := Kd.at_string (Kd.R_reads' HO_8.out).2.2 4 p80134 q80134
                                                                  obtain rfl : ad80128 = ad80134 := (by injection e80134)
                                                                  (try simp only [show (4 : Int).toNat = 4 from rfl, Nat.reduceMul, Nat.reduceEqDiff, Go.Addr.add, ↓reduceIte] at hx80134_0)
                                                                  have qi80134 : (4 < t80107.length) = True := eq_true (by omega)
                                                                  (try rw [show ((4 : Int)).toNat = 4 from rfl] at hx80134_0)
                                                                  replace p80134 := eq_true p80134
                                                                  replace q80134 := eq_true q80134
                                                                  have p80135 : 0 ≤ (4 : Int) := (by omega)
                                                                  have q80135 : 4 < (t80107.length : Int) := of_decide_eq_true (by first | (with_reducible assumption) | assumption)
                                                                  obtain ⟨ad80135, e80135, hx80135_0⟩ := Kd.at_string (Kd.R_reads' HO_8.out).2.2 4 p80135 q80135
                                                                  obtain rfl : ad80128 = ad80135 := (by injection e80135)
                                                                  (try simp only [show (4 : Int).toNat = 4 from rfl, Nat.reduceMul, Nat.reduceEqDiff, Go.Addr.add, ↓reduceIte] at hx80135_0)
                                                                  have qi80135 : (4 < t80107.length) = True := eq_true (by omega)
                                                                  (try rw [show ((4 : Int)).toNat = 4 from rfl] at hx80135_0)
                                                                  replace p80135 := eq_true p80135
                                                                  replace q80135 := eq_true q80135
                                                                  have p80136 : 0 ≤ (1 : Int) := (by omega)
                                                                  have q80136 : 1 < (t80107.length : Int) := of_decide_eq_true (by first | (with_reducible assumption) | assumption)
                                                                  obtain ⟨ad80136, e80136, hx80136_0⟩ := Kd.at_string (Kd.R_reads' HO_8.out).2.2 1 p80136 q80136
                                                                  obtain rfl : ad80128 = ad80136 := (by injection e80136)
                                                                  (try simp only [show (1 : Int).toNat = 1 from rfl, Nat.reduceMul, Nat.reduceEqDiff, Go.Addr.add, ↓reduceIte] at hx80136_0)
                                                                  have qi80136 : (1 < t80107.length) = True := eq_true (by omega)
                                                                  (try rw [show ((1 : Int)).toNat = 1 from rfl] at hx80136_0)
                                                                  replace p80136 := eq_true p80136
                                                                  replace q80136 := eq_true q80136
                                                                  have p80137 : 0 ≤ (3 : Int) := (by omega)
                                                                  have q80137 : 3 < (t80107.length : Int) := of_decide_eq_true (by first | (with_reducible assumption) | assumption)
                                                                  obtain ⟨ad80137, e80137, hx80137_0⟩ := Kd.at_string (Kd.R_reads' HO_8.out).2.2 3 p80137 q80137
                                                                  obtain rfl : ad80128 = ad80137 := (by injection e80137)
                                                                  (try simp only [show (3 : Int).toNat = 3 from rfl, Nat.reduceMul, Nat.reduceEqDiff, Go.Addr.add, ↓reduceIte] at hx80137_0)
                                                                  have qi80137 : (3 < t80107.length) = True := eq_true (by omega)
                                                                  (try rw [show ((3 : Int)).toNat = 3 from rfl] at hx80137_0)
                                                                  replace p80137 := eq_true p80137
                                                                  replace q80137 := eq_true q80137
                                                                  go_wp2
                                                                  repeat (go_quiet (fail); try go_wp2)
                                                                  go_ret
                                                                  exact ⟨by first | rfl | (simp [errW_none, errW_some] <;> rfl) | (simp [*, errW_none, errW_some] <;> rfl), by repeat (first | (with_reducible first | exact HB.out | apply below_alloc | apply pw_below_drewN | apply below_drew1 | refine below_set ?_ GE80106.out) | exact HB.out)⟩
                                                              · rw [if_neg c82] at H
                                                                exact absurd H (by simp)
                                                            · rw [if_neg c81] at H
                                                              have c81b0 : ((rdOf ByteArray.empty t80107 1).toList == ((((rdOf ByteArray.empty t80107 0).extract 0 4) ++ ((rdOf ByteArray.empty t80107 0).extract 5 7)) ++ ((rdOf ByteArray.empty t80107 0).extract 8 (rdOf ByteArray.empty t80107 0).size)).toList) = false := beq_eq_false_iff_ne.mpr c81
                                                              have c81b1 : ((rdOf ByteArray.empty t80107 1).toList != ((((rdOf ByteArray.empty t80107 0).extract 0 4) ++ ((rdOf ByteArray.empty t80107 0).extract 5 7)) ++ ((rdOf ByteArray.empty t80107 0).extract 8 (rdOf ByteArray.empty t80107 0).size)).toList) = true := bne_iff_ne.mpr c81
                                                              obtain rfl := Option.some.inj H
                                                              obtain ⟨Ao103, co103, eo103⟩ := Kd.R_slice HO_8.out
                                                              subst eo103
                                                              have p80128 : 0 ≤ (0 : Int) := (by omega)
                                                              have q80128 : 0 < (t80107.length : Int) := of_decide_eq_true (by first | (with_reducible assumption) | assumption)
                                                              obtain ⟨ad80128, e80128, hx80128_0⟩ := Kd.at_string (Kd.R_reads' HO_8.out).2.2 0 p80128 q80128
                                                              cases e80128
                                                              have qi80128 : (0 < t80107.length) = True := eq_true (by omega)
                                                              (try rw [show ((0 : Int)).toNat = 0 from rfl] at hx80128_0)
                                                              (try rw [Addr.add_zero'] at hx80128_0)
                                                              replace p80128 := eq_true p80128
                                                              replace q80128 := eq_true q80128
                                                              have p80129 : 0 ≤ (0 : Int) := (by omega)
                                                              have q80129 : 0 < (t80107.length : Int) := of_decide_eq_true (by first | (with_reducible assumption) | assumption)
                                                              obtain ⟨ad80129, e80129, hx80129_0⟩ := Kd.at_string (Kd.R_reads' HO_8.out).2.2 0 p80129 q80129
                                                              obtain rfl : ad80128 = ad80129 := (by injection e80129)
                                                              have qi80129 : (0 < t80107.length) = True := eq_true (by omega)
                                                              (try rw [show ((0 : Int)).toNat = 0 from rfl] at hx80129_0)
                                                              (try rw [Addr.add_zero'] at hx80129_0)
                                                              replace p80129 := eq_true p80129
                                                              replace q80129 := eq_true q80129
                                                              have p80130 : 0 ≤ (0 : Int) := (by omega)
                                                              have q80130 : 0 < (t80107.length : Int) := of_decide_eq_true (by first | (with_reducible assumption) | assumption)
                                                              obtain ⟨ad80130, e80130, hx80130_0⟩ := Kd.at_string (Kd.R_reads' HO_8.out).2.2 0 p80130 q80130
                                                              obtain rfl : ad80128 = ad80130 := (by injection e80130)
                                                              have qi80130 : (0 < t80107.length) = True := eq_true (by omega)
                                                              (try rw [show ((0 : Int)).toNat = 0 from rfl] at hx80130_0)
                                                              (try rw [Addr.add_zero'] at hx80130_0)
                                                              replace p80130 := eq_true p80130
                                                              replace q80130 := eq_true q80130
                                                              have p80131 : 0 ≤ (2 : Int) := (by omega)
                                                              have q80131 : 2 < (t80107.length : Int) := of_decide_eq_true (by first | (with_reducible assumption) | assumption)
                                                              obtain ⟨ad80131, e80131, hx80131_0⟩ := Kd.at_string (Kd.R_reads' HO_8.out).2.2 2 p80131 q80131
                                                              obtain rfl : ad80128 = ad80131 := (by injection e80131)
                                                              (try simp only [show (2 : Int).toNat = 2 from rfl, Nat.reduceMul, Nat.reduceEqDiff, Go.Addr.add, ↓reduceIte] at hx80131_0)
                                                              have qi80131 : (2 < t80107.length) = True := eq_true (by omega)
                                                              (try rw [show ((2 : Int)).toNat = 2 from rfl] at hx80131_0)
                                                              replace p80131 := eq_true p80131
                                                              replace q80131 := eq_true q80131
                                                              have p80132 : 0 ≤ (2 : Int) := (by omega)
                                                              have q80132 : 2 < (t80107.length : Int) := of_decide_eq_true (by first | (with_reducible assumption) | assumption)
                                                              obtain ⟨ad80132, e80132, hx80132_0⟩ := Kd.at_string (Kd.R_reads' HO_8.out).2.2 2 p80132 q80132
                                                              obtain rfl : ad80128 = ad80132 := (by injection e80132)
                                                              (try simp only [show (2 : Int).toNat = 2 from rfl, Nat.reduceMul, Nat.reduceEqDiff, Go.Addr.add, ↓reduceIte] at hx80132_0)
                                                              have qi80132 : (2 < t80107.length) = True := eq_true (by omega)
                                                              (try rw [show ((2 : Int)).toNat = 2 from rfl] at hx80132_0)
                                                              replace p80132 := eq_true p80132
                                                              replace q80132 := eq_true q80132
                                                              have p80133 : 0 ≤ (4 : Int) := (by omega)
                                                              have q80133 : 4 < (t80107.length : Int) := of_decide_eq_true (by first | (with_reducible assumption) | assumption)
                                                              obtain ⟨ad80133, e80133, hx80133_0⟩ := Kd.at_string (Kd.R_reads' HO_8.out).2.2 4 p80133 q80133
                                                              obtain rfl : ad80128 = ad80133 := (by injection e80133)
                                                              (try simp only [show (4 : Int).toNat = 4 from rfl, Nat.reduceMul, Nat.reduceEqDiff, Go.Addr.add, ↓reduceIte] at hx80133_0)
                                                              have qi80133 : (4 < t80107.length) = True := eq_true (by omega)
                                                              (try rw [show ((4 : Int)).toNat = 4 from rfl] at hx80133_0)
                                                              replace p80133 := eq_true p80133
                                                              replace q80133 := eq_true q80133
                                                              have p80134 : 0 ≤ (4 : Int) := (by omega)
                                                              have q80134 : 4 < (t80107.length : Int) := of_decide_eq_true (by first | (with_reducible assumption) | assumption)
                                                              obtain ⟨ad80134, e80134, hx80134_0⟩ := Kd.at_string (Kd.R_reads' HO_8.out).2.2 4 p80134 q80134
                                                              obtain rfl : ad80128 = ad80134 := (by injection e80134)
                                                              (try simp only [show (4 : Int).toNat = 4 from rfl, Nat.reduceMul, Nat.reduceEqDiff, Go.Addr.add, ↓reduceIte] at hx80134_0)
                                                              have qi80134 : (4 < t80107.length) = True := eq_true (by omega)
                                                              (try rw [show ((4 : Int)).toNat = 4 from rfl] at hx80134_0)
                                                              replace p80134 := eq_true p80134
                                                              replace q80134 := eq_true q80134
                                                              have p80135 : 0 ≤ (4 : Int) := (by omega)
                                                              have q80135 : 4 < (t80107.length : Int) := of_decide_eq_true (by first | (with_reducible assumption) | assumption)
                                                              obtain ⟨ad80135, e80135, hx80135_0⟩ := Kd.at_string (Kd.R_reads' HO_8.out).2.2 4 p80135 q80135
                                                              obtain rfl : ad80128 = ad80135 := (by injection e80135)
                                                              (try simp only [show (4 : Int).toNat = 4 from rfl, Nat.reduceMul, Nat.reduceEqDiff, Go.Addr.add, ↓reduceIte] at hx80135_0)
                                                              have qi80135 : (4 < t80107.length) = True := eq_true (by omega)
                                                              (try rw [show ((4 : Int)).toNat = 4 from rfl] at hx80135_0)
                                                              replace p80135 := eq_true p80135
                                                              replace q80135 := eq_true q80135
                                                              have p80136 : 0 ≤ (1 : Int) := (by omega)
                                                              have q80136 : 1 < (t80107.length : Int) := of_decide_eq_true (by first | (with_reducible assumption) | assumption)
                                                              obtain ⟨ad80136, e80136, hx80136_0⟩ := Kd.at_string (Kd.R_reads' HO_8.out).2.2 1 p80136 q80136
                                                              obtain rfl : ad80128 = ad80136 := (by injection e80136)
                                                              (try simp only [show (1 : Int).toNat = 1 from rfl, Nat.reduceMul, Nat.reduceEqDiff, Go.Addr.add, ↓reduceIte] at hx80136_0)
                                                              have qi80136 : (1 < t80107.length) = True := eq_true (by omega)
                                                              (try rw [show ((1 : Int)).toNat = 1 from rfl] at hx80136_0)
                                                              replace p80136 := eq_true p80136
                                                              replace q80136 := eq_true q80136
                                                              go_wp2
                                                              repeat (go_quiet (fail); try go_wp2)
                                                              go_ret
                                                              exact ⟨by first | rfl | (simp [errW_none, errW_some] <;> rfl) | (simp [*, errW_none, errW_some] <;> rfl), by repeat (first | (with_reducible first | exact HB.out | apply below_alloc | apply pw_below_drewN | apply below_drew1 | refine below_set ?_ GE80106.out) | exact HB.out)⟩
                                                          · rw [if_neg c80] at H
                                                            exact absurd H (by simp)
                                                        · rw [if_neg c79] at H
                                                          exact absurd H (by simp)
                                                      · rw [if_neg c78] at H
                                                        exact absurd H (by simp)
                                                    · rw [if_neg c77] at H
                                                      exact absurd H (by simp)
                                                  · rw [if_neg c76] at H
                                                    exact absurd H (by simp)
                                                · rw [if_neg c75] at H
                                                  exact absurd H (by simp)
                                              · rw [if_neg c74] at H
                                                exact absurd H (by simp)
                                            · rw [if_neg c72] at H
                                              exact absurd H (by simp)
                                          · rw [if_neg c71] at H
                                            exact absurd H (by simp)
                                        · rw [if_neg c70] at H
                                          exact absurd H (by simp)
                                      · rw [if_neg c69] at H
                                        exact absurd H (by simp)
                                    · rw [if_neg c67] at H
                                      exact absurd H (by simp)
                                  · rw [if_neg c66] at H
                                    exact absurd H (by simp)
                                · rw [if_neg c65] at H
                                  exact absurd H (by simp)
                              · rw [if_neg c64] at H
                                exact absurd H (by simp)
                            · rw [if_neg c63] at H
                              exact absurd H (by simp)
                          · rw [if_neg c62] at H
                            exact absurd H (by simp)
                        · rw [if_neg c61] at H
                          exact absurd H (by simp)
                      · rw [if_neg c60] at H
                        exact absurd H (by simp)
                    · rw [if_neg c59] at H
                      exact absurd H (by simp)

end Go.Proofs.YtiklakkkgmilnaaDoor.GC
