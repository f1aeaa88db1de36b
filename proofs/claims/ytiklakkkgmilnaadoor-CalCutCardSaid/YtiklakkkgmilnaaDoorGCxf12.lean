-- written by a program (gp.py over the kit's print) for this claim
import Derived.Test.YtiklakkkgmilnaaDoorGCx0
import Derived.Test.YtiklakkkgmilnaaDoorGCxf14
import Derived.Test.YtiklakkkgmilnaaDoorGCxf13
import Derived.Test.YtiklakkkgmilnaaDoorGCxf19
import Derived.Test.YtiklakkkgmilnaaDoorGCxf29
import Derived.Test.YtiklakkkgmilnaaDoorCalDateC
import Derived.Test.YtiklakkkgmilnaaDoorCalInstX
import Derived.Test.YtiklakkkgmilnaaDoorCalParseX
import Derived.Test.YtiklakkkgmilnaaDoorCalSpanX
namespace Go.Proofs.YtiklakkkgmilnaaDoor.GC
open Go.RowKit Go.Proofs.YtiklakkkgmilnaaDoorW.PrintWords Go.Proofs.YtiklakkkgmilnaaDoorW.PrintLast Go.Proofs.YtiklakkkgmilnaaDoor.Ext Go.Proofs.YtiklakkkgmilnaaDoor.PCal
attribute [local go_sem] max2_int min2_int max_two min_two   -- for this text alone
set_option linter.unusedVariables false
set_option linter.unusedSimpArgs false

/-! ### larderlaw03_CalCut: function 12 -/
mutual
def larderlaw03_CalCut.l0 : Nat → Int → Int → List ByteArray → Int → Int → Int → Int → Int → Int → Int → Int → Option (Bool)
  | 0, _, _, _, _, _, _, _, _, _, _, _ => none
  | k + 1, x1, x3, x9, x11, x120102000, x120102001, x120102002, x120102003, x120102004, x120102005, x120102006 => if x11 < 6 then (if 0 ≤ x11 then (if x11 < (x9.length : Int) then (if ((rdOf ByteArray.empty x9 x11).size : Int) < 7 then (some false) else ((larderlaw03_within.f x3 0 (wrap64 (((rdOf ByteArray.empty x9 x11).size : Int) - 1))).bind fun t120111 => (if 0 ≤ t120111 then (if t120111 ≤ ((rdOf ByteArray.empty x9 x11).size : Int) then ((cal_ParseDate.f ((rdOf ByteArray.empty x9 x11).extract 0 (t120111 : Int).toNat)).bind fun bt120112 => (if bt120112.2.2.2.1 = 0 then (larderlaw03_CalCut.j1 k x1 x3 x9 x11 (rdOf ByteArray.empty x9 x11) false x120102000 x120102001 x120102002 x120102003 x120102004 x120102005 x120102006) else (if bt120112.2.2.2.1 = 31 then (if bt120112.2.2.2.2 = t120111 then (larderlaw03_CalCut.j1 k x1 x3 x9 x11 (rdOf ByteArray.empty x9 x11) false x120102000 x120102001 x120102002 x120102003 x120102004 x120102005 x120102006) else (if bt120112.2.2.2.1 = 30 then (larderlaw03_CalCut.j1 k x1 x3 x9 x11 (rdOf ByteArray.empty x9 x11) (decide (bt120112.2.2.2.2 ≥ t120111)) x120102000 x120102001 x120102002 x120102003 x120102004 x120102005 x120102006) else (larderlaw03_CalCut.j1 k x1 x3 x9 x11 (rdOf ByteArray.empty x9 x11) true x120102000 x120102001 x120102002 x120102003 x120102004 x120102005 x120102006))) else (if bt120112.2.2.2.1 = 30 then (larderlaw03_CalCut.j1 k x1 x3 x9 x11 (rdOf ByteArray.empty x9 x11) (decide (bt120112.2.2.2.2 ≥ t120111)) x120102000 x120102001 x120102002 x120102003 x120102004 x120102005 x120102006) else (larderlaw03_CalCut.j1 k x1 x3 x9 x11 (rdOf ByteArray.empty x9 x11) true x120102000 x120102001 x120102002 x120102003 x120102004 x120102005 x120102006))))) else (none)) else (none)))) else (none)) else (none)) else ((larderlaw03_within.f x1 0 315569519999).bind fun t120123 => ((cal_PrintInstant.f k t120123 0).bind fun bt120124 => (if (bt120124.1.size : Int) = 20 then ((larderlaw03_within.f x3 0 (wrap64 ((bt120124.1.size : Int) - 1))).bind fun t120126 => (if 0 ≤ t120126 then (if t120126 ≤ (bt120124.1.size : Int) then ((cal_ParseInstant.f (bt120124.1.extract 0 (t120126 : Int).toNat)).bind fun bt120127 => (if bt120124.1.size + 1 ≤ 9223372036854775807 then ((cal_ParseInstant.f (bt120124.1 ++ (⟨#[33]⟩ : ByteArray))).bind fun bt120130 => (if bt120124.2 = 0 then (if bt120127.2.1 = 0 then (larderlaw03_CalCut.j2 k x3 true x120102000 x120102001 x120102002 x120102003 x120102004 x120102005 x120102006) else (if bt120127.2.2 > t120126 then (larderlaw03_CalCut.j2 k x3 true x120102000 x120102001 x120102002 x120102003 x120102004 x120102005 x120102006) else (if bt120130.2.1 = 33 then (larderlaw03_CalCut.j2 k x3 (bt120130.2.2 != (bt120124.1.size : Int)) x120102000 x120102001 x120102002 x120102003 x120102004 x120102005 x120102006) else (larderlaw03_CalCut.j2 k x3 true x120102000 x120102001 x120102002 x120102003 x120102004 x120102005 x120102006)))) else (larderlaw03_CalCut.j2 k x3 true x120102000 x120102001 x120102002 x120102003 x120102004 x120102005 x120102006))) else (none))) else (none)) else (none))) else (some false))))
def larderlaw03_CalCut.j1 : Nat → Int → Int → List ByteArray → Int → ByteArray → Bool → Int → Int → Int → Int → Int → Int → Int → Option (Bool)
  | 0, _, _, _, _, _, _, _, _, _, _, _, _, _ => none
  | k + 1, x1, x3, x9, x11, x12, x78, x120102000, x120102001, x120102002, x120102003, x120102004, x120102005, x120102006 => if x78 = true then (some false) else (if x12.size + 1 ≤ 9223372036854775807 then ((cal_ParseDate.f (x12 ++ (⟨#[33]⟩ : ByteArray))).bind fun bt120118 => (if bt120118.2.2.2.1 = 31 then (if bt120118.2.2.2.2 = (x12.size : Int) then (larderlaw03_CalCut.l0 k x1 x3 x9 (wrap64 (x11 + 1)) x120102000 x120102001 x120102002 x120102003 x120102004 x120102005 x120102006) else (some false)) else (some false))) else (none))
def larderlaw03_CalCut.j2 : Nat → Int → Bool → Int → Int → Int → Int → Int → Int → Int → Option (Bool)
  | 0, _, _, _, _, _, _, _, _, _ => none
  | k + 1, x3, x143, x120102000, x120102001, x120102002, x120102003, x120102004, x120102005, x120102006 => if x143 = true then (some false) else ((cal_PrintSpan.f x120102000 x120102001 x120102002 x120102003 x120102004 x120102005 x120102006).bind fun bt120133 => (if bt120133.2 = 0 then (larderlaw03_CalCut.j3 k x3 bt120133.1) else (larderlaw03_CalCut.j3 k x3 (⟨#[80, 49, 89, 50, 77, 51, 68, 84, 52, 72, 53, 77, 54, 83]⟩ : ByteArray))))
def larderlaw03_CalCut.j3 : Nat → Int → ByteArray → Option (Bool)
  | 0, _, _ => none
  | k + 1, x3, x17 => if (x17.size : Int) < 3 then (some false) else ((larderlaw03_within.f x3 0 (wrap64 ((x17.size : Int) - 1))).bind fun t120135 => (if 0 ≤ t120135 then (if t120135 ≤ (x17.size : Int) then ((cal_ParseSpan.f (x17.extract 0 (t120135 : Int).toNat)).bind fun bt120136 => (if x17.size + 1 ≤ 9223372036854775807 then ((cal_ParseSpan.f (x17 ++ (⟨#[33]⟩ : ByteArray))).bind fun bt120145 => (if bt120136.2.2.2.2.2.2.2.1 = 0 then (if bt120145.2.2.2.2.2.2.2.1 = 34 then (some (bt120145.2.2.2.2.2.2.2.2 == (x17.size : Int))) else (some false)) else (if bt120136.2.2.2.2.2.2.2.1 = 34 then (if bt120136.2.2.2.2.2.2.2.2 = t120135 then (if bt120145.2.2.2.2.2.2.2.1 = 34 then (some (bt120145.2.2.2.2.2.2.2.2 == (x17.size : Int))) else (some false)) else (some false)) else (some false)))) else (none))) else (none)) else (none)))
end
def larderlaw03_CalCut.f (k : Nat) (a0 : Int) (a1 : Int) (a2_0 : Int) (a2_1 : Int) (a2_2 : Int) (a2_3 : Int) (a2_4 : Int) (a2_5 : Int) (a2_6 : Int) (a3 : Int) : Option (Bool) := (larderlaw03_within.f a0 2 3652424).bind fun t120102 => ((larderlaw03_at.f k t120102).bind fun bt120103 => ((larderlaw03_forms.f k bt120103.1 bt120103.2.1 bt120103.2.2).bind fun bt120106 => (if bt120106.2 = true then (larderlaw03_CalCut.l0 k a1 a3 bt120106.1 0 a2_0 a2_1 a2_2 a2_3 a2_4 a2_5 a2_6) else (some false))))
theorem larderlaw03_CalCut.mono_l : ∀ k, (∀ y0 y1 y2 y3 y4 y5 y6 y7 y8 y9 y10, LeO (larderlaw03_CalCut.l0 k y0 y1 y2 y3 y4 y5 y6 y7 y8 y9 y10) (larderlaw03_CalCut.l0 (k + 1) y0 y1 y2 y3 y4 y5 y6 y7 y8 y9 y10)) ∧ (∀ y0 y1 y2 y3 y4 y5 y6 y7 y8 y9 y10 y11 y12, LeO (larderlaw03_CalCut.j1 k y0 y1 y2 y3 y4 y5 y6 y7 y8 y9 y10 y11 y12) (larderlaw03_CalCut.j1 (k + 1) y0 y1 y2 y3 y4 y5 y6 y7 y8 y9 y10 y11 y12)) ∧ (∀ y0 y1 y2 y3 y4 y5 y6 y7 y8, LeO (larderlaw03_CalCut.j2 k y0 y1 y2 y3 y4 y5 y6 y7 y8) (larderlaw03_CalCut.j2 (k + 1) y0 y1 y2 y3 y4 y5 y6 y7 y8)) ∧ (∀ y0 y1, LeO (larderlaw03_CalCut.j3 k y0 y1) (larderlaw03_CalCut.j3 (k + 1) y0 y1))
  | 0 => ⟨fun _ _ _ _ _ _ _ _ _ _ _ r h => by simp [larderlaw03_CalCut.l0] at h, fun _ _ _ _ _ _ _ _ _ _ _ _ _ r h => by simp [larderlaw03_CalCut.j1] at h, fun _ _ _ _ _ _ _ _ _ r h => by simp [larderlaw03_CalCut.j2] at h, fun _ _ r h => by simp [larderlaw03_CalCut.j3] at h⟩
  | k + 1 => by
    obtain ⟨ih0, ih1, ih2, ih3⟩ := larderlaw03_CalCut.mono_l k
    refine ⟨?_, ?_, ?_, ?_⟩
    · intro y0 y1 y2 y3 y4 y5 y6 y7 y8 y9 y10
      unfold larderlaw03_CalCut.l0
      repeat' first
      | (with_reducible exact ih0 _ _ _ _ _ _ _ _ _ _ _)
      | (with_reducible exact ih1 _ _ _ _ _ _ _ _ _ _ _ _ _)
      | (with_reducible exact ih2 _ _ _ _ _ _ _ _ _)
      | (with_reducible exact ih3 _ _)
      | (with_reducible exact cal_PrintInstant.mono _ _ _)
      | (with_reducible exact larderlaw03_at.mono _ _)
      | (with_reducible exact larderlaw03_forms.mono _ _ _ _)
      | (with_reducible exact LeO.refl _)
      | (with_reducible exact LeO.none _)
      | (with_reducible refine LeO.ite ?_ ?_)
      | (with_reducible refine LeO.bind ?_ (fun _ => ?_))
      | exact ih0 _ _ _ _ _ _ _ _ _ _ _
      | exact ih1 _ _ _ _ _ _ _ _ _ _ _ _ _
      | exact ih2 _ _ _ _ _ _ _ _ _
      | exact ih3 _ _
      | exact cal_PrintInstant.mono _ _ _
      | exact larderlaw03_at.mono _ _
      | exact larderlaw03_forms.mono _ _ _ _
      | exact LeO.none _
      | refine LeO.ite ?_ ?_
      | refine LeO.bind ?_ (fun _ => ?_)
    · intro y0 y1 y2 y3 y4 y5 y6 y7 y8 y9 y10 y11 y12
      unfold larderlaw03_CalCut.j1
      repeat' first
      | (with_reducible exact ih0 _ _ _ _ _ _ _ _ _ _ _)
      | (with_reducible exact ih1 _ _ _ _ _ _ _ _ _ _ _ _ _)
      | (with_reducible exact ih2 _ _ _ _ _ _ _ _ _)
      | (with_reducible exact ih3 _ _)
      | (with_reducible exact cal_PrintInstant.mono _ _ _)
      | (with_reducible exact larderlaw03_at.mono _ _)
      | (with_reducible exact larderlaw03_forms.mono _ _ _ _)
      | (with_reducible exact LeO.refl _)
      | (with_reducible exact LeO.none _)
      | (with_reducible refine LeO.ite ?_ ?_)
      | (with_reducible refine LeO.bind ?_ (fun _ => ?_))
      | exact ih0 _ _ _ _ _ _ _ _ _ _ _
      | exact ih1 _ _ _ _ _ _ _ _ _ _ _ _ _
      | exact ih2 _ _ _ _ _ _ _ _ _
      | exact ih3 _ _
      | exact cal_PrintInstant.mono _ _ _
      | exact larderlaw03_at.mono _ _
      | exact larderlaw03_forms.mono _ _ _ _
      | exact LeO.none _
      | refine LeO.ite ?_ ?_
      | refine LeO.bind ?_ (fun _ => ?_)
    · intro y0 y1 y2 y3 y4 y5 y6 y7 y8
      unfold larderlaw03_CalCut.j2
      repeat' first
      | (with_reducible exact ih0 _ _ _ _ _ _ _ _ _ _ _)
      | (with_reducible exact ih1 _ _ _ _ _ _ _ _ _ _ _ _ _)
      | (with_reducible exact ih2 _ _ _ _ _ _ _ _ _)
      | (with_reducible exact ih3 _ _)
      | (with_reducible exact cal_PrintInstant.mono _ _ _)
      | (with_reducible exact larderlaw03_at.mono _ _)
      | (with_reducible exact larderlaw03_forms.mono _ _ _ _)
      | (with_reducible exact LeO.refl _)
      | (with_reducible exact LeO.none _)
      | (with_reducible refine LeO.ite ?_ ?_)
      | (with_reducible refine LeO.bind ?_ (fun _ => ?_))
      | exact ih0 _ _ _ _ _ _ _ _ _ _ _
      | exact ih1 _ _ _ _ _ _ _ _ _ _ _ _ _
      | exact ih2 _ _ _ _ _ _ _ _ _
      | exact ih3 _ _
      | exact cal_PrintInstant.mono _ _ _
      | exact larderlaw03_at.mono _ _
      | exact larderlaw03_forms.mono _ _ _ _
      | exact LeO.none _
      | refine LeO.ite ?_ ?_
      | refine LeO.bind ?_ (fun _ => ?_)
    · intro y0 y1
      unfold larderlaw03_CalCut.j3
      repeat' first
      | (with_reducible exact ih0 _ _ _ _ _ _ _ _ _ _ _)
      | (with_reducible exact ih1 _ _ _ _ _ _ _ _ _ _ _ _ _)
      | (with_reducible exact ih2 _ _ _ _ _ _ _ _ _)
      | (with_reducible exact ih3 _ _)
      | (with_reducible exact cal_PrintInstant.mono _ _ _)
      | (with_reducible exact larderlaw03_at.mono _ _)
      | (with_reducible exact larderlaw03_forms.mono _ _ _ _)
      | (with_reducible exact LeO.refl _)
      | (with_reducible exact LeO.none _)
      | (with_reducible refine LeO.ite ?_ ?_)
      | (with_reducible refine LeO.bind ?_ (fun _ => ?_))
      | exact ih0 _ _ _ _ _ _ _ _ _ _ _
      | exact ih1 _ _ _ _ _ _ _ _ _ _ _ _ _
      | exact ih2 _ _ _ _ _ _ _ _ _
      | exact ih3 _ _
      | exact cal_PrintInstant.mono _ _ _
      | exact larderlaw03_at.mono _ _
      | exact larderlaw03_forms.mono _ _ _ _
      | exact LeO.none _
      | refine LeO.ite ?_ ?_
      | refine LeO.bind ?_ (fun _ => ?_)
theorem larderlaw03_CalCut.mono : ∀ a0 a1 a2 a3 a4 a5 a6 a7 a8 a9 k, LeO (larderlaw03_CalCut.f k a0 a1 a2 a3 a4 a5 a6 a7 a8 a9) (larderlaw03_CalCut.f (k + 1) a0 a1 a2 a3 a4 a5 a6 a7 a8 a9) := by
  intro a0 a1 a2 a3 a4 a5 a6 a7 a8 a9 k
  obtain ⟨ih0, ih1, ih2, ih3⟩ := larderlaw03_CalCut.mono_l k
  unfold larderlaw03_CalCut.f
  repeat' first
      | (with_reducible exact ih0 _ _ _ _ _ _ _ _ _ _ _)
      | (with_reducible exact ih1 _ _ _ _ _ _ _ _ _ _ _ _ _)
      | (with_reducible exact ih2 _ _ _ _ _ _ _ _ _)
      | (with_reducible exact ih3 _ _)
      | (with_reducible exact cal_PrintInstant.mono _ _ _)
      | (with_reducible exact larderlaw03_at.mono _ _)
      | (with_reducible exact larderlaw03_forms.mono _ _ _ _)
      | (with_reducible exact LeO.refl _)
      | (with_reducible exact LeO.none _)
      | (with_reducible refine LeO.ite ?_ ?_)
      | (with_reducible refine LeO.bind ?_ (fun _ => ?_))
      | exact ih0 _ _ _ _ _ _ _ _ _ _ _
      | exact ih1 _ _ _ _ _ _ _ _ _ _ _ _ _
      | exact ih2 _ _ _ _ _ _ _ _ _
      | exact ih3 _ _
      | exact cal_PrintInstant.mono _ _ _
      | exact larderlaw03_at.mono _ _
      | exact larderlaw03_forms.mono _ _ _ _
      | exact LeO.none _
      | refine LeO.ite ?_ ?_
      | refine LeO.bind ?_ (fun _ => ?_)
set_option maxHeartbeats 8000000 in
set_option maxRecDepth 100000 in
theorem larderlaw03_CalCut.calls (k : Nat) (a0 : Int) (a1 : Int) (a2_0 : Int) (a2_1 : Int) (a2_2 : Int) (a2_3 : Int) (a2_4 : Int) (a2_5 : Int) (a2_6 : Int) (a3 : Int) (r : Bool) (w : World) (hG : GlobOk w) (h : larderlaw03_CalCut.f k a0 a1 a2_0 a2_1 a2_2 a2_3 a2_4 a2_5 a2_6 a3 = some r) :
    Calls Tryd.prog 12 #[.int .i64 a0, .int .i64 a1, .agg #[.int .i64 a2_0, .int .i64 a2_1, .int .i64 a2_2, .int .i64 a2_3, .int .i64 a2_4, .int .i64 a2_5, .int .i64 a2_6], .int .i64 a3] w fun e w' => e = .returned (.bool r) ∧ Below w.heap.size w w' := by
  have HG := Aside0.mk hG
  clear hG
  have hu30 := Tryd.underlying30
  have hu23 := Tryd.underlying23
  have HB := Aside0.mk (Below.refl w.heap.size w)
  have H : ((larderlaw03_within.f a0 2 3652424).bind fun t120102 => ((larderlaw03_at.f k t120102).bind fun bt120103 => ((larderlaw03_forms.f k bt120103.1 bt120103.2.1 bt120103.2.2).bind fun bt120106 => (if bt120106.2 = true then (larderlaw03_CalCut.l0 k a1 a3 bt120106.1 0 a2_0 a2_1 a2_2 a2_3 a2_4 a2_5 a2_6) else (some false))))) = some r := h
  clear h
  replace H := Option.bind_eq_some_iff.mp H
  obtain ⟨t120102, A50, H⟩ := H
  replace H : ((larderlaw03_at.f k t120102).bind fun bt120103 => ((larderlaw03_forms.f k bt120103.1 bt120103.2.1 bt120103.2.2).bind fun bt120106 => (if bt120106.2 = true then (larderlaw03_CalCut.l0 k a1 a3 bt120106.1 0 a2_0 a2_1 a2_2 a2_3 a2_4 a2_5 a2_6) else (some false)))) = some r := H
  have A5 := Aside0.mk A50
  clear A50
  replace H := Option.bind_eq_some_iff.mp H
  obtain ⟨⟨t120103, t120104, t120105⟩, A60, H⟩ := H
  replace H : ((larderlaw03_forms.f k t120103 t120104 t120105).bind fun bt120106 => (if bt120106.2 = true then (larderlaw03_CalCut.l0 k a1 a3 bt120106.1 0 a2_0 a2_1 a2_2 a2_3 a2_4 a2_5 a2_6) else (some false))) = some r := H
  have A6 := Aside0.mk A60
  clear A60
  replace H := Option.bind_eq_some_iff.mp H
  obtain ⟨⟨t120106, t120109⟩, A70, H⟩ := H
  replace H : (if t120109 = true then (larderlaw03_CalCut.l0 k a1 a3 t120106 0 a2_0 a2_1 a2_2 a2_3 a2_4 a2_5 a2_6) else (some false)) = some r := H
  have A7 := Aside0.mk A70
  clear A70
  by_cases c8 : t120109 = true
  · subst c8
    have H1 : (larderlaw03_CalCut.l0 k a1 a3 t120106 0 a2_0 a2_1 a2_2 a2_3 a2_4 a2_5 a2_6) = some r := by rw [if_pos rfl] at H; exact H
    clear H
    have H := H1
    clear H1
    have H' := Aside0.mk H
    clear H
    go_enter Tryd.func12, Tryd.ntmps12
    go_wp2_with (first | ((with_reducible refine gate_dst (N := 6) rfl ?_); refine box_event ?hg (N := 6) ?hd (cs := #[.int .i64 a2_0, .int .i64 a2_1, .int .i64 a2_2, .int .i64 a2_3, .int .i64 a2_4, .int .i64 a2_5, .int .i64 a2_6]) (t := 30) ?hr ?_; (case hd => rfl); (case hg => rfl); (case hr => first | (go_simp; done) | (go_simp; rfl)); intro gb120101 hg w9 hbox hb; have n0_ := Aside0.mk (below_step (by repeat (first | (with_reducible first | exact HB.out | apply below_alloc | apply pw_below_drewN | apply below_drew1) | exact HB.out)) hb); have n1_ := Aside0.mk (hbox); have n2_ := Aside0.mk ((by rw [hg]; exact (below_size (by repeat (first | (with_reducible first | exact HB.out | apply below_alloc | apply pw_below_drewN | apply below_drew1) | exact HB.out))) : w.heap.size ≤ gb120101)); have n3_ := Aside0.mk ((by rw [hg]; exact (below_size (by repeat (first | (with_reducible first | exact HB.out | apply below_alloc | apply pw_below_drewN | apply below_drew1) | exact HB.out))) : w.heap.size ≤ gb120101)); clear HB; have HB := n0_; have BK120101 := n1_; have GW120101 := n2_; have GE120101 := n3_; clear n0_ n1_ n2_ n3_; clear hb hbox hg) | ((with_reducible refine gate_callee (f := 14) rfl ?_); refine goesL_ (some 28) rfl rfl Tryd.func14 (by kernel_rfl) rfl #[.int .i64 a0, .int .i64 2, .int .i64 3652424] rfl (by (try simp only [List.map_toArray, List.map_cons, List.map_nil]); first | done | rfl | (simp only [List.length_drop, List.length_take]; rfl)) ?_; (with_reducible refine (larderlaw03_within.calls a0 2 3652424 t120102 _ A5.out).mono ?_); rintro e w' ⟨rfl, ⟨nd, rfl⟩⟩; refine ⟨_, rfl, ?_⟩) | ((with_reducible refine gate_callee (f := 13) rfl ?_); refine goesL_ (some 29) rfl rfl Tryd.func13 (by kernel_rfl) rfl #[.int .i64 t120102] rfl (by (try simp only [List.map_toArray, List.map_cons, List.map_nil]); first | done | rfl | (simp only [List.length_drop, List.length_take]; rfl)) ?_; (with_reducible refine (larderlaw03_at.calls k t120102 t120103 t120104 t120105 _ ?side1 A6.out).mono ?_); (case side1 => refine GlobOk.below HG.out ?_; repeat (first | (with_reducible first | exact HB.out | apply below_alloc | apply pw_below_drewN | apply below_drew1 | refine below_set ?_ GE120101.out) | exact HB.out)); rintro e w10 ⟨rfl, hb⟩; refine ⟨_, rfl, ?_⟩; have n0_ := Aside0.mk (blk_below (g := gb120101) (o := .cells #[.int .i64 a2_0, .int .i64 a2_1, .int .i64 a2_2, .int .i64 a2_3, .int .i64 a2_4, .int .i64 a2_5, .int .i64 a2_6] 30 (0, 0)) (by (with_reducible repeat (first | refine blk_drewN ?_ _ | refine blk_drew ?_ | refine blk_alloc ?_ _)); exact BK120101.out) hb); have n1_ := Aside0.mk (below_step (by repeat (first | (with_reducible first | exact HB.out | apply below_alloc | apply pw_below_drewN | apply below_drew1 | refine below_set ?_ GE120101.out) | exact HB.out)) hb); clear BK120101; clear HB; have BK120101 := n0_; have HB := n1_; clear n0_ n1_; (try clear hb); (try clear hb2); (try clear hk); (try clear hi)) | ((with_reducible refine gate_callee (f := 29) rfl ?_); refine goesL_ (some 30) rfl rfl Tryd.func29 (by kernel_rfl) rfl #[.agg #[.int .i64 t120103, .int .i64 t120104, .int .i64 t120105]] rfl (by (try simp only [List.map_toArray, List.map_cons, List.map_nil]); first | done | rfl | (simp only [List.length_drop, List.length_take]; rfl)) ?_; (with_reducible refine (larderlaw03_forms.calls k t120103 t120104 t120105 t120106 true _ ?side1 A7.out).mono ?_); (case side1 => refine GlobOk.below HG.out ?_; repeat (first | (with_reducible first | exact HB.out | apply below_alloc | apply pw_below_drewN | apply below_drew1 | refine below_set ?_ GE120101.out) | exact HB.out)); rintro e w11 ⟨v120107, rfl, ho0, hb⟩; refine ⟨_, rfl, ?_⟩; have n0_ := Aside0.mk (Kd.R_lower ho0 (below_size (by repeat (first | (with_reducible first | exact HB.out | apply below_alloc | apply pw_below_drewN | apply below_drew1 | refine below_set ?_ GE120101.out) | exact HB.out)))); have n1_ := Aside0.mk (blk_below (g := gb120101) (o := .cells #[.int .i64 a2_0, .int .i64 a2_1, .int .i64 a2_2, .int .i64 a2_3, .int .i64 a2_4, .int .i64 a2_5, .int .i64 a2_6] 30 (0, 0)) (by (with_reducible repeat (first | refine blk_drewN ?_ _ | refine blk_drew ?_ | refine blk_alloc ?_ _)); exact BK120101.out) hb); have n2_ := Aside0.mk (below_step (by repeat (first | (with_reducible first | exact HB.out | apply below_alloc | apply pw_below_drewN | apply below_drew1 | refine below_set ?_ GE120101.out) | exact HB.out)) hb); clear BK120101; clear HB; have HO120108 := n0_; have BK120101 := n1_; have HB := n2_; clear n0_ n1_ n2_; (try clear hb); (try clear hb2); (try clear hk); (try clear hi); (try clear ho0)))
    go_loopg [11] k (fun kq v11 w' => ∃ (x11_1 : Int), v11 = .int .i64 x11_1 ∧ Aside0 (larderlaw03_CalCut.l0 kq a1 a3 t120106 x11_1 a2_0 a2_1 a2_2 a2_3 a2_4 a2_5 a2_6 = some r) ∧ Aside0 (kq ≤ k) ∧ Aside0 (Kd.R Kd.string 9 w' w.heap.size (fun _ => True) v120107 t120106) ∧ Aside0 (w'.heap[gb120101]? = some (.cells #[.int .i64 a2_0, .int .i64 a2_1, .int .i64 a2_2, .int .i64 a2_3, .int .i64 a2_4, .int .i64 a2_5, .int .i64 a2_6] 30 (0, 0))) ∧ Aside0 (Below w.heap.size w w'))
    case atStart => exact ⟨(0), (by first | rfl | (simp; done) | (simp [*]; done)), H', ⟨Nat.le_refl _⟩, ⟨by (with_reducible repeat (first | apply Kd.R_alloc | apply Kd.R_drewN | apply Kd.R_drew)); exact HO120108.out⟩, ⟨by (with_reducible repeat (first | refine blk_drewN ?_ _ | refine blk_drew ?_ | refine blk_alloc ?_ _)); exact BK120101.out⟩, ⟨by repeat (first | (with_reducible first | exact HB.out | apply below_alloc | apply pw_below_drewN | apply below_drew1 | refine below_set ?_ GE120101.out) | exact HB.out)⟩⟩
    case round =>
      clear H'
      try clear c1
      try clear c2
      try clear p2
      try clear c8
      obtain ⟨x11_1, rfl, HA, HK1, HO_9, BK120101, HB⟩ := hrel
      cases gk with
      | zero => exact absurd HA.out (by simp [larderlaw03_CalCut.l0])
      | succ k1 =>
        have H := HA.out
        clear HA
        simp only [larderlaw03_CalCut.l0] at H
        by_cases c12 : x11_1 < 6
        · rw [if_pos c12] at H
          have c12b0 : decide (x11_1 < 6) = true := decide_eq_true c12
          clear c12
          by_cases c13 : 0 ≤ x11_1
          · rw [if_pos c13] at H
            have c13b0 : decide (0 ≤ x11_1) = true := decide_eq_true c13
            clear c13
            by_cases c14 : x11_1 < (t120106.length : Int)
            · rw [if_pos c14] at H
              have c14b0 : decide (x11_1 < (t120106.length : Int)) = true := decide_eq_true c14
              clear c14
              by_cases c15 : ((rdOf ByteArray.empty t120106 x11_1).size : Int) < 7
              · rw [if_pos c15] at H
                have c15b0 : decide (((rdOf ByteArray.empty t120106 x11_1).size : Int) < 7) = true := decide_eq_true c15
                have c15b1 : decide ((rdOf ByteArray.empty t120106 x11_1).size < 7) = true := decide_eq_true (by omega)
                clear c15
                obtain rfl := Option.some.inj H
                obtain ⟨Ao16, co16, eo16⟩ := Kd.R_slice HO_9.out
                subst eo16
                have p120110 : 0 ≤ (x11_1 : Int) := of_decide_eq_true (by first | (with_reducible assumption) | assumption)
                have q120110 : x11_1 < (t120106.length : Int) := of_decide_eq_true (by first | (with_reducible assumption) | assumption)
                obtain ⟨ad120110, e120110, hx120110_0⟩ := Kd.at_string (Kd.R_reads' HO_9.out).2.2 x11_1 p120110 q120110
                cases e120110
                replace p120110 := eq_true p120110
                replace q120110 := eq_true q120110
                go_wp2
                go_ret
                exact ⟨by first | rfl | (simp [errW_none, errW_some] <;> rfl) | (simp [*, errW_none, errW_some] <;> rfl), by repeat (first | (with_reducible first | exact HB.out | apply below_alloc | apply pw_below_drewN | apply below_drew1 | refine below_set ?_ GE120101.out) | exact HB.out)⟩
              · rw [if_neg c15] at H
                have c15b0 : decide (((rdOf ByteArray.empty t120106 x11_1).size : Int) < 7) = false := decide_eq_false c15
                have c15b1 : decide ((rdOf ByteArray.empty t120106 x11_1).size < 7) = false := decide_eq_false (by omega)
                clear c15
                replace H := Option.bind_eq_some_iff.mp H
                obtain ⟨t120111, A170, H⟩ := H
                replace H : (if 0 ≤ t120111 then (if t120111 ≤ ((rdOf ByteArray.empty t120106 x11_1).size : Int) then ((cal_ParseDate.f ((rdOf ByteArray.empty t120106 x11_1).extract 0 (t120111 : Int).toNat)).bind fun bt120112 => (if bt120112.2.2.2.1 = 0 then (larderlaw03_CalCut.j1 k1 a1 a3 t120106 x11_1 (rdOf ByteArray.empty t120106 x11_1) false a2_0 a2_1 a2_2 a2_3 a2_4 a2_5 a2_6) else (if bt120112.2.2.2.1 = 31 then (if bt120112.2.2.2.2 = t120111 then (larderlaw03_CalCut.j1 k1 a1 a3 t120106 x11_1 (rdOf ByteArray.empty t120106 x11_1) false a2_0 a2_1 a2_2 a2_3 a2_4 a2_5 a2_6) else (if bt120112.2.2.2.1 = 30 then (larderlaw03_CalCut.j1 k1 a1 a3 t120106 x11_1 (rdOf ByteArray.empty t120106 x11_1) (decide (bt120112.2.2.2.2 ≥ t120111)) a2_0 a2_1 a2_2 a2_3 a2_4 a2_5 a2_6) else (larderlaw03_CalCut.j1 k1 a1 a3 t120106 x11_1 (rdOf ByteArray.empty t120106 x11_1) true a2_0 a2_1 a2_2 a2_3 a2_4 a2_5 a2_6))) else (if bt120112.2.2.2.1 = 30 then (larderlaw03_CalCut.j1 k1 a1 a3 t120106 x11_1 (rdOf ByteArray.empty t120106 x11_1) (decide (bt120112.2.2.2.2 ≥ t120111)) a2_0 a2_1 a2_2 a2_3 a2_4 a2_5 a2_6) else (larderlaw03_CalCut.j1 k1 a1 a3 t120106 x11_1 (rdOf ByteArray.empty t120106 x11_1) true a2_0 a2_1 a2_2 a2_3 a2_4 a2_5 a2_6))))) else (none)) else (none)) = some r := H
                have A17 := Aside0.mk A170
                clear A170
                by_cases c18 : 0 ≤ t120111
                · rw [if_pos c18] at H
                  have c18b0 := eq_true c18
                  have c18b1 : decide (0 ≤ t120111) = true := decide_eq_true c18
                  clear c18
                  by_cases c19 : t120111 ≤ ((rdOf ByteArray.empty t120106 x11_1).size : Int)
                  · rw [if_pos c19] at H
                    have c19b0 := eq_true c19
                    have c19b1 : decide (t120111 ≤ ((rdOf ByteArray.empty t120106 x11_1).size : Int)) = true := decide_eq_true c19
                    clear c19
                    replace H := Option.bind_eq_some_iff.mp H
                    obtain ⟨⟨t120112, t120113, t120114, t120115, t120116⟩, A200, H⟩ := H
                    replace H : (if t120115 = 0 then (larderlaw03_CalCut.j1 k1 a1 a3 t120106 x11_1 (rdOf ByteArray.empty t120106 x11_1) false a2_0 a2_1 a2_2 a2_3 a2_4 a2_5 a2_6) else (if t120115 = 31 then (if t120116 = t120111 then (larderlaw03_CalCut.j1 k1 a1 a3 t120106 x11_1 (rdOf ByteArray.empty t120106 x11_1) false a2_0 a2_1 a2_2 a2_3 a2_4 a2_5 a2_6) else (if t120115 = 30 then (larderlaw03_CalCut.j1 k1 a1 a3 t120106 x11_1 (rdOf ByteArray.empty t120106 x11_1) (decide (t120116 ≥ t120111)) a2_0 a2_1 a2_2 a2_3 a2_4 a2_5 a2_6) else (larderlaw03_CalCut.j1 k1 a1 a3 t120106 x11_1 (rdOf ByteArray.empty t120106 x11_1) true a2_0 a2_1 a2_2 a2_3 a2_4 a2_5 a2_6))) else (if t120115 = 30 then (larderlaw03_CalCut.j1 k1 a1 a3 t120106 x11_1 (rdOf ByteArray.empty t120106 x11_1) (decide (t120116 ≥ t120111)) a2_0 a2_1 a2_2 a2_3 a2_4 a2_5 a2_6) else (larderlaw03_CalCut.j1 k1 a1 a3 t120106 x11_1 (rdOf ByteArray.empty t120106 x11_1) true a2_0 a2_1 a2_2 a2_3 a2_4 a2_5 a2_6)))) = some r := H
                    have A20 := Aside0.mk A200
                    clear A200
                    have HC21 := Aside0.mk H
                    clear H
                    obtain ⟨Ao22, co22, eo22⟩ := Kd.R_slice HO_9.out
                    subst eo22
                    have p120110 : 0 ≤ (x11_1 : Int) := of_decide_eq_true (by first | (with_reducible assumption) | assumption)
                    have q120110 : x11_1 < (t120106.length : Int) := of_decide_eq_true (by first | (with_reducible assumption) | assumption)
                    obtain ⟨ad120110, e120110, hx120110_0⟩ := Kd.at_string (Kd.R_reads' HO_9.out).2.2 x11_1 p120110 q120110
                    cases e120110
                    replace p120110 := eq_true p120110
                    replace q120110 := eq_true q120110
                    go_upto_region 12 with (first | ((with_reducible refine gate_callee (f := 14) rfl ?_); refine goesL_ (some 50) rfl rfl Tryd.func14 (by kernel_rfl) rfl #[.int .i64 a3, .int .i64 0, .int .i64 (wrap64 (((rdOf ByteArray.empty t120106 x11_1).size : Int) - 1))] rfl (by (try simp only [List.map_toArray, List.map_cons, List.map_nil]); first | done | rfl | (simp only [List.length_drop, List.length_take]; rfl)) ?_; (with_reducible refine (larderlaw03_within.calls a3 0 (wrap64 (((rdOf ByteArray.empty t120106 x11_1).size : Int) - 1)) t120111 _ A17.out).mono ?_); rintro e w' ⟨rfl, ⟨nd, rfl⟩⟩; refine ⟨_, rfl, ?_⟩; (try (rw [drewN_self wr]; generalize hq_ : World.drewN wr _ = wr; have n0_ : Aside0 (Kd.R Kd.string 9 wr w.heap.size (fun _ => True) (.slice (some ad120110) t120106.length co22) t120106) := ⟨by rw [← hq_]; exact (by (with_reducible repeat (first | apply Kd.R_alloc | apply Kd.R_drewN | apply Kd.R_drew)); exact HO_9.out)⟩; have n1_ : Aside0 (wr.heap[gb120101]? = some (.cells #[.int .i64 a2_0, .int .i64 a2_1, .int .i64 a2_2, .int .i64 a2_3, .int .i64 a2_4, .int .i64 a2_5, .int .i64 a2_6] 30 (0, 0))) := ⟨by rw [← hq_]; exact (by (with_reducible repeat (first | refine blk_drewN ?_ _ | refine blk_drew ?_ | refine blk_alloc ?_ _)); exact BK120101.out)⟩; have n2_ : Aside0 (Below w.heap.size w wr) := ⟨by rw [← hq_]; exact (by repeat (first | (with_reducible first | exact HB.out | apply below_alloc | apply pw_below_drewN | apply below_drew1 | refine below_set ?_ GE120101.out) | exact HB.out))⟩; clear HO_9 BK120101 HB hq_; have HO_9 := n0_; have BK120101 := n1_; have HB := n2_; clear n0_ n1_ n2_))) | ((with_reducible refine gate_callee (f := 21) rfl ?_); refine goesL_ (some 55) rfl rfl Tryd.func21 (by kernel_rfl) rfl #[.string ((rdOf ByteArray.empty t120106 x11_1).extract 0 (t120111 : Int).toNat)] rfl (by (try simp only [List.map_toArray, List.map_cons, List.map_nil]); first | done | rfl | (simp only [List.length_drop, List.length_take]; rfl)) ?_; (with_reducible refine (cal_ParseDate.calls ((rdOf ByteArray.empty t120106 x11_1).extract 0 (t120111 : Int).toNat) t120112 t120113 t120114 t120115 t120116 _ ?side1 A20.out).mono ?_); (case side1 => refine GlobOk.below HG.out ?_; repeat (first | (with_reducible first | exact HB.out | apply below_alloc | apply pw_below_drewN | apply below_drew1 | refine below_set ?_ GE120101.out) | exact HB.out)); rintro e w23 ⟨rfl, hb⟩; refine ⟨_, rfl, ?_⟩; have n0_ := Aside0.mk (Kd.R_below (by (with_reducible repeat (first | apply Kd.R_alloc | apply Kd.R_drewN | apply Kd.R_drew)); exact HO_9.out) hb); have n1_ := Aside0.mk (blk_below (g := gb120101) (o := .cells #[.int .i64 a2_0, .int .i64 a2_1, .int .i64 a2_2, .int .i64 a2_3, .int .i64 a2_4, .int .i64 a2_5, .int .i64 a2_6] 30 (0, 0)) (by (with_reducible repeat (first | refine blk_drewN ?_ _ | refine blk_drew ?_ | refine blk_alloc ?_ _)); exact BK120101.out) hb); have n2_ := Aside0.mk (below_step (by repeat (first | (with_reducible first | exact HB.out | apply below_alloc | apply pw_below_drewN | apply below_drew1 | refine below_set ?_ GE120101.out) | exact HB.out)) hb); clear HO_9; clear BK120101; clear HB; have HO_9 := n0_; have BK120101 := n1_; have HB := n2_; clear n0_ n1_ n2_; (try clear hb); (try clear hb2); (try clear hk); (try clear hi)) | ((with_reducible refine gate_dst (N := 14) rfl ?_); refine box_event ?hg (N := 14) ?hd (cs := #[.int .i64 0, .int .i64 0, .int .i64 0]) (t := 23) ?hr ?_; (case hd => rfl); (case hg => rfl); (case hr => first | (go_simp; done) | (go_simp; rfl)); intro gb120117 hg w24 hbox hb; have n0_ := Aside0.mk (Kd.R_below (by (with_reducible repeat (first | apply Kd.R_alloc | apply Kd.R_drewN | apply Kd.R_drew)); exact HO_9.out) hb); have n1_ := Aside0.mk (blk_below (g := gb120101) (o := .cells #[.int .i64 a2_0, .int .i64 a2_1, .int .i64 a2_2, .int .i64 a2_3, .int .i64 a2_4, .int .i64 a2_5, .int .i64 a2_6] 30 (0, 0)) (by (with_reducible repeat (first | refine blk_drewN ?_ _ | refine blk_drew ?_ | refine blk_alloc ?_ _)); exact BK120101.out) hb); have n2_ := Aside0.mk (below_step (by repeat (first | (with_reducible first | exact HB.out | apply below_alloc | apply pw_below_drewN | apply below_drew1 | refine below_set ?_ GE120101.out) | exact HB.out)) hb); have n3_ := Aside0.mk (hbox); have n4_ := Aside0.mk ((by rw [hg]; exact (below_size (by repeat (first | (with_reducible first | exact HB.out | apply below_alloc | apply pw_below_drewN | apply below_drew1 | refine below_set ?_ GE120101.out) | exact HB.out))) : w.heap.size ≤ gb120117)); have n5_ := Aside0.mk ((by rw [hg]; exact (below_size (by repeat (first | (with_reducible first | exact HB.out | apply below_alloc | apply pw_below_drewN | apply below_drew1 | refine below_set ?_ GE120101.out) | exact HB.out))) : w.heap.size ≤ gb120117)); have n6_ := Aside0.mk ((by rw [hg]; exact Nat.ne_of_lt (blk_lt (g := gb120101) (o := .cells #[.int .i64 a2_0, .int .i64 a2_1, .int .i64 a2_2, .int .i64 a2_3, .int .i64 a2_4, .int .i64 a2_5, .int .i64 a2_6] 30 (0, 0)) (by (with_reducible repeat (first | refine blk_drewN ?_ _ | refine blk_drew ?_ | refine blk_alloc ?_ _)); exact BK120101.out)) : gb120101 ≠ gb120117)); have n7_ := Aside0.mk ((by rw [hg]; exact Nat.ne_of_gt (blk_lt (g := gb120101) (o := .cells #[.int .i64 a2_0, .int .i64 a2_1, .int .i64 a2_2, .int .i64 a2_3, .int .i64 a2_4, .int .i64 a2_5, .int .i64 a2_6] 30 (0, 0)) (by (with_reducible repeat (first | refine blk_drewN ?_ _ | refine blk_drew ?_ | refine blk_alloc ?_ _)); exact BK120101.out)) : gb120117 ≠ gb120101)); clear HO_9; clear BK120101; clear HB; have HO_9 := n0_; have BK120101 := n1_; have HB := n2_; have BK120117 := n3_; have GW120117 := n4_; have GE120117 := n5_; have NB120101_120117 := n6_; have NB120117_120101 := n7_; clear n0_ n1_ n2_ n3_ n4_ n5_ n6_ n7_; clear hb hbox hg; have hnb25 := NB120117_120101.out; have hnc25 := NB120101_120117.out; have hcz26_0 : w24.cell? ⟨gb120117, 0, none⟩ = some (.int .i64 0) := (blk_cell BK120117.out 0).trans rfl; have hcz26_1 : w24.cell? ⟨gb120117, 1, none⟩ = some (.int .i64 0) := (blk_cell BK120117.out 1).trans rfl; have hcz26_2 : w24.cell? ⟨gb120117, 2, none⟩ = some (.int .i64 0) := (blk_cell BK120117.out 2).trans rfl; have hfz26_0 := blk_frozen BK120117.out 0; have hfz26_1 := blk_frozen BK120117.out 1; have hfz26_2 := blk_frozen BK120117.out 2))
                    (try simp only [Act.put, List.setIfInBounds_toArray, List.set_cons_zero, List.set_cons_succ])
                    go_cut [78] (fun v78 wc => ∃ (kq : Nat) (x78_20 : Bool), v78 = .bool x78_20 ∧ Aside0 (larderlaw03_CalCut.j1 kq a1 a3 t120106 x11_1 (rdOf ByteArray.empty t120106 x11_1) x78_20 a2_0 a2_1 a2_2 a2_3 a2_4 a2_5 a2_6 = some r) ∧ Aside0 (kq ≤ k1) ∧ Aside0 (Kd.R Kd.string 9 wc w.heap.size (fun _ => True) (.slice (some ad120110) t120106.length co22) t120106) ∧ Aside0 (wc.heap[gb120101]? = some (.cells #[.int .i64 a2_0, .int .i64 a2_1, .int .i64 a2_2, .int .i64 a2_3, .int .i64 a2_4, .int .i64 a2_5, .int .i64 a2_6] 30 (0, 0))) ∧ Aside0 (wc.heap[gb120117]? = some (.cells #[.int .i64 t120112, .int .i64 t120113, .int .i64 t120114] 23 (0, 0))) ∧ Aside0 (Below w.heap.size w wc))
                    case first =>
                      have H := HC21.out
                      clear HC21
                      by_cases c27 : t120115 = 0
                      · rw [if_pos c27] at H
                        have c27b0 : (t120115 == 0) = true := beq_iff_eq.mpr c27
                        have c27b1 : (t120115 != 0) = false := bne_eq_false_iff_eq.mpr c27
                        clear c27
                        (first | rw [c27b0] | (simp only [i64_w, i32_w]; rw [c27b0]) | skip)
                        have H' := Aside0.mk H
                        clear H
                        go_wp2
                        go_meet
                        case rel => exact ⟨_, (false), (by first | rfl | (simp; done) | (simp [*]; done)), H', ⟨by have := HK1.out; first | omega | exact Nat.le_refl _⟩, ⟨by (with_reducible repeat (first | apply Kd.R_alloc | apply Kd.R_drewN | apply Kd.R_drew)); exact Kd.R_mono (Kd.R_far (p := ⟨gb120117, 2, none⟩) (Kd.R_far (p := ⟨gb120117, 1, none⟩) (Kd.R_far (p := ⟨gb120117, 0, none⟩) (Kd.R_types HO_9.out BK120117.out (by decide)) (fun _ hk => hk.2) (.int .i64 t120112)) (fun _ hk => hk.2) (.int .i64 t120113)) (fun _ hk => hk.2) (.int .i64 t120114)) (fun _ hk => trivial)⟩, ⟨by (with_reducible repeat (first | refine blk_drewN ?_ _ | refine blk_drew ?_ | refine blk_alloc ?_ _)); refine blk_far ?_ NB120101_120117.out _; (with_reducible repeat (first | refine blk_drewN ?_ _ | refine blk_drew ?_ | refine blk_alloc ?_ _)); refine blk_far ?_ NB120101_120117.out _; (with_reducible repeat (first | refine blk_drewN ?_ _ | refine blk_drew ?_ | refine blk_alloc ?_ _)); refine blk_far ?_ NB120101_120117.out _; (with_reducible repeat (first | refine blk_drewN ?_ _ | refine blk_drew ?_ | refine blk_alloc ?_ _)); exact BK120101.out⟩, ⟨by (with_reducible repeat (first | refine blk_drewN ?_ _ | refine blk_drew ?_ | refine blk_alloc ?_ _)); refine blk_put (cs := #[.int .i64 t120112, .int .i64 t120113, .int .i64 0]) ?_ 2 _ rfl; (with_reducible repeat (first | refine blk_drewN ?_ _ | refine blk_drew ?_ | refine blk_alloc ?_ _)); refine blk_put (cs := #[.int .i64 t120112, .int .i64 0, .int .i64 0]) ?_ 1 _ rfl; (with_reducible repeat (first | refine blk_drewN ?_ _ | refine blk_drew ?_ | refine blk_alloc ?_ _)); refine blk_put (cs := #[.int .i64 0, .int .i64 0, .int .i64 0]) ?_ 0 _ rfl; (with_reducible repeat (first | refine blk_drewN ?_ _ | refine blk_drew ?_ | refine blk_alloc ?_ _)); exact BK120117.out⟩, ⟨by repeat (first | (with_reducible first | exact HB.out | apply below_alloc | apply pw_below_drewN | apply below_drew1 | refine below_set ?_ GE120101.out | refine below_set ?_ GE120117.out) | exact HB.out)⟩⟩
                      · rw [if_neg c27] at H
                        have c27b0 : (t120115 == 0) = false := beq_eq_false_iff_ne.mpr c27
                        have c27b1 : (t120115 != 0) = true := bne_iff_ne.mpr c27
                        (first | rw [c27b0] | (simp only [i64_w, i32_w]; rw [c27b0]) | skip)
                        by_cases c28 : t120115 = 31
                        · rw [if_pos c28] at H
                          have c28b0 : (t120115 == 31) = true := beq_iff_eq.mpr c28
                          have c28b1 : (t120115 != 31) = false := bne_eq_false_iff_eq.mpr c28
                          clear c28
                          by_cases c29 : t120116 = t120111
                          · rw [if_pos c29] at H
                            have c29b0 : (t120116 == t120111) = true := beq_iff_eq.mpr c29
                            have c29b1 : (t120116 != t120111) = false := bne_eq_false_iff_eq.mpr c29
                            clear c29
                            have H' := Aside0.mk H
                            clear H
                            go_wp2
                            go_meet
                            case rel => exact ⟨_, (false), (by first | rfl | (simp; done) | (simp [*]; done)), H', ⟨by have := HK1.out; first | omega | exact Nat.le_refl _⟩, ⟨by (with_reducible repeat (first | apply Kd.R_alloc | apply Kd.R_drewN | apply Kd.R_drew)); exact Kd.R_mono (Kd.R_far (p := ⟨gb120117, 2, none⟩) (Kd.R_far (p := ⟨gb120117, 1, none⟩) (Kd.R_far (p := ⟨gb120117, 0, none⟩) (Kd.R_types HO_9.out BK120117.out (by decide)) (fun _ hk => hk.2) (.int .i64 t120112)) (fun _ hk => hk.2) (.int .i64 t120113)) (fun _ hk => hk.2) (.int .i64 t120114)) (fun _ hk => trivial)⟩, ⟨by (with_reducible repeat (first | refine blk_drewN ?_ _ | refine blk_drew ?_ | refine blk_alloc ?_ _)); refine blk_far ?_ NB120101_120117.out _; (with_reducible repeat (first | refine blk_drewN ?_ _ | refine blk_drew ?_ | refine blk_alloc ?_ _)); refine blk_far ?_ NB120101_120117.out _; (with_reducible repeat (first | refine blk_drewN ?_ _ | refine blk_drew ?_ | refine blk_alloc ?_ _)); refine blk_far ?_ NB120101_120117.out _; (with_reducible repeat (first | refine blk_drewN ?_ _ | refine blk_drew ?_ | refine blk_alloc ?_ _)); exact BK120101.out⟩, ⟨by (with_reducible repeat (first | refine blk_drewN ?_ _ | refine blk_drew ?_ | refine blk_alloc ?_ _)); refine blk_put (cs := #[.int .i64 t120112, .int .i64 t120113, .int .i64 0]) ?_ 2 _ rfl; (with_reducible repeat (first | refine blk_drewN ?_ _ | refine blk_drew ?_ | refine blk_alloc ?_ _)); refine blk_put (cs := #[.int .i64 t120112, .int .i64 0, .int .i64 0]) ?_ 1 _ rfl; (with_reducible repeat (first | refine blk_drewN ?_ _ | refine blk_drew ?_ | refine blk_alloc ?_ _)); refine blk_put (cs := #[.int .i64 0, .int .i64 0, .int .i64 0]) ?_ 0 _ rfl; (with_reducible repeat (first | refine blk_drewN ?_ _ | refine blk_drew ?_ | refine blk_alloc ?_ _)); exact BK120117.out⟩, ⟨by repeat (first | (with_reducible first | exact HB.out | apply below_alloc | apply pw_below_drewN | apply below_drew1 | refine below_set ?_ GE120101.out | refine below_set ?_ GE120117.out) | exact HB.out)⟩⟩
                          · rw [if_neg c29] at H
                            have c29b0 : (t120116 == t120111) = false := beq_eq_false_iff_ne.mpr c29
                            have c29b1 : (t120116 != t120111) = true := bne_iff_ne.mpr c29
                            by_cases c30 : t120115 = 30
                            · rw [if_pos c30] at H
                              have c30b0 : (t120115 == 30) = true := beq_iff_eq.mpr c30
                              have c30b1 : (t120115 != 30) = false := bne_eq_false_iff_eq.mpr c30
                              clear c30
                              have H' := Aside0.mk H
                              clear H
                              go_wp2
                              go_meet
                              case rel => exact ⟨_, (decide (t120116 ≥ t120111)), (by first | rfl | (simp; done) | (simp [*]; done)), H', ⟨by have := HK1.out; first | omega | exact Nat.le_refl _⟩, ⟨by (with_reducible repeat (first | apply Kd.R_alloc | apply Kd.R_drewN | apply Kd.R_drew)); exact Kd.R_mono (Kd.R_far (p := ⟨gb120117, 2, none⟩) (Kd.R_far (p := ⟨gb120117, 1, none⟩) (Kd.R_far (p := ⟨gb120117, 0, none⟩) (Kd.R_types HO_9.out BK120117.out (by decide)) (fun _ hk => hk.2) (.int .i64 t120112)) (fun _ hk => hk.2) (.int .i64 t120113)) (fun _ hk => hk.2) (.int .i64 t120114)) (fun _ hk => trivial)⟩, ⟨by (with_reducible repeat (first | refine blk_drewN ?_ _ | refine blk_drew ?_ | refine blk_alloc ?_ _)); refine blk_far ?_ NB120101_120117.out _; (with_reducible repeat (first | refine blk_drewN ?_ _ | refine blk_drew ?_ | refine blk_alloc ?_ _)); refine blk_far ?_ NB120101_120117.out _; (with_reducible repeat (first | refine blk_drewN ?_ _ | refine blk_drew ?_ | refine blk_alloc ?_ _)); refine blk_far ?_ NB120101_120117.out _; (with_reducible repeat (first | refine blk_drewN ?_ _ | refine blk_drew ?_ | refine blk_alloc ?_ _)); exact BK120101.out⟩, ⟨by (with_reducible repeat (first | refine blk_drewN ?_ _ | refine blk_drew ?_ | refine blk_alloc ?_ _)); refine blk_put (cs := #[.int .i64 t120112, .int .i64 t120113, .int .i64 0]) ?_ 2 _ rfl; (with_reducible repeat (first | refine blk_drewN ?_ _ | refine blk_drew ?_ | refine blk_alloc ?_ _)); refine blk_put (cs := #[.int .i64 t120112, .int .i64 0, .int .i64 0]) ?_ 1 _ rfl; (with_reducible repeat (first | refine blk_drewN ?_ _ | refine blk_drew ?_ | refine blk_alloc ?_ _)); refine blk_put (cs := #[.int .i64 0, .int .i64 0, .int .i64 0]) ?_ 0 _ rfl; (with_reducible repeat (first | refine blk_drewN ?_ _ | refine blk_drew ?_ | refine blk_alloc ?_ _)); exact BK120117.out⟩, ⟨by repeat (first | (with_reducible first | exact HB.out | apply below_alloc | apply pw_below_drewN | apply below_drew1 | refine below_set ?_ GE120101.out | refine below_set ?_ GE120117.out) | exact HB.out)⟩⟩
                            · rw [if_neg c30] at H
                              have c30b0 : (t120115 == 30) = false := beq_eq_false_iff_ne.mpr c30
                              have c30b1 : (t120115 != 30) = true := bne_iff_ne.mpr c30
                              have H' := Aside0.mk H
                              clear H
                              go_wp2
                              go_meet
                              case rel => exact ⟨_, (true), (by first | rfl | (simp; done) | (simp [*]; done)), H', ⟨by have := HK1.out; first | omega | exact Nat.le_refl _⟩, ⟨by (with_reducible repeat (first | apply Kd.R_alloc | apply Kd.R_drewN | apply Kd.R_drew)); exact Kd.R_mono (Kd.R_far (p := ⟨gb120117, 2, none⟩) (Kd.R_far (p := ⟨gb120117, 1, none⟩) (Kd.R_far (p := ⟨gb120117, 0, none⟩) (Kd.R_types HO_9.out BK120117.out (by decide)) (fun _ hk => hk.2) (.int .i64 t120112)) (fun _ hk => hk.2) (.int .i64 t120113)) (fun _ hk => hk.2) (.int .i64 t120114)) (fun _ hk => trivial)⟩, ⟨by (with_reducible repeat (first | refine blk_drewN ?_ _ | refine blk_drew ?_ | refine blk_alloc ?_ _)); refine blk_far ?_ NB120101_120117.out _; (with_reducible repeat (first | refine blk_drewN ?_ _ | refine blk_drew ?_ | refine blk_alloc ?_ _)); refine blk_far ?_ NB120101_120117.out _; (with_reducible repeat (first | refine blk_drewN ?_ _ | refine blk_drew ?_ | refine blk_alloc ?_ _)); refine blk_far ?_ NB120101_120117.out _; (with_reducible repeat (first | refine blk_drewN ?_ _ | refine blk_drew ?_ | refine blk_alloc ?_ _)); exact BK120101.out⟩, ⟨by (with_reducible repeat (first | refine blk_drewN ?_ _ | refine blk_drew ?_ | refine blk_alloc ?_ _)); refine blk_put (cs := #[.int .i64 t120112, .int .i64 t120113, .int .i64 0]) ?_ 2 _ rfl; (with_reducible repeat (first | refine blk_drewN ?_ _ | refine blk_drew ?_ | refine blk_alloc ?_ _)); refine blk_put (cs := #[.int .i64 t120112, .int .i64 0, .int .i64 0]) ?_ 1 _ rfl; (with_reducible repeat (first | refine blk_drewN ?_ _ | refine blk_drew ?_ | refine blk_alloc ?_ _)); refine blk_put (cs := #[.int .i64 0, .int .i64 0, .int .i64 0]) ?_ 0 _ rfl; (with_reducible repeat (first | refine blk_drewN ?_ _ | refine blk_drew ?_ | refine blk_alloc ?_ _)); exact BK120117.out⟩, ⟨by repeat (first | (with_reducible first | exact HB.out | apply below_alloc | apply pw_below_drewN | apply below_drew1 | refine below_set ?_ GE120101.out | refine below_set ?_ GE120117.out) | exact HB.out)⟩⟩
                        · rw [if_neg c28] at H
                          have c28b0 : (t120115 == 31) = false := beq_eq_false_iff_ne.mpr c28
                          have c28b1 : (t120115 != 31) = true := bne_iff_ne.mpr c28
                          by_cases c31 : t120115 = 30
                          · rw [if_pos c31] at H
                            have c31b0 : (t120115 == 30) = true := beq_iff_eq.mpr c31
                            have c31b1 : (t120115 != 30) = false := bne_eq_false_iff_eq.mpr c31
                            clear c31
                            have H' := Aside0.mk H
                            clear H
                            go_wp2
                            go_meet
                            case rel => exact ⟨_, (decide (t120116 ≥ t120111)), (by first | rfl | (simp; done) | (simp [*]; done)), H', ⟨by have := HK1.out; first | omega | exact Nat.le_refl _⟩, ⟨by (with_reducible repeat (first | apply Kd.R_alloc | apply Kd.R_drewN | apply Kd.R_drew)); exact Kd.R_mono (Kd.R_far (p := ⟨gb120117, 2, none⟩) (Kd.R_far (p := ⟨gb120117, 1, none⟩) (Kd.R_far (p := ⟨gb120117, 0, none⟩) (Kd.R_types HO_9.out BK120117.out (by decide)) (fun _ hk => hk.2) (.int .i64 t120112)) (fun _ hk => hk.2) (.int .i64 t120113)) (fun _ hk => hk.2) (.int .i64 t120114)) (fun _ hk => trivial)⟩, ⟨by (with_reducible repeat (first | refine blk_drewN ?_ _ | refine blk_drew ?_ | refine blk_alloc ?_ _)); refine blk_far ?_ NB120101_120117.out _; (with_reducible repeat (first | refine blk_drewN ?_ _ | refine blk_drew ?_ | refine blk_alloc ?_ _)); refine blk_far ?_ NB120101_120117.out _; (with_reducible repeat (first | refine blk_drewN ?_ _ | refine blk_drew ?_ | refine blk_alloc ?_ _)); refine blk_far ?_ NB120101_120117.out _; (with_reducible repeat (first | refine blk_drewN ?_ _ | refine blk_drew ?_ | refine blk_alloc ?_ _)); exact BK120101.out⟩, ⟨by (with_reducible repeat (first | refine blk_drewN ?_ _ | refine blk_drew ?_ | refine blk_alloc ?_ _)); refine blk_put (cs := #[.int .i64 t120112, .int .i64 t120113, .int .i64 0]) ?_ 2 _ rfl; (with_reducible repeat (first | refine blk_drewN ?_ _ | refine blk_drew ?_ | refine blk_alloc ?_ _)); refine blk_put (cs := #[.int .i64 t120112, .int .i64 0, .int .i64 0]) ?_ 1 _ rfl; (with_reducible repeat (first | refine blk_drewN ?_ _ | refine blk_drew ?_ | refine blk_alloc ?_ _)); refine blk_put (cs := #[.int .i64 0, .int .i64 0, .int .i64 0]) ?_ 0 _ rfl; (with_reducible repeat (first | refine blk_drewN ?_ _ | refine blk_drew ?_ | refine blk_alloc ?_ _)); exact BK120117.out⟩, ⟨by repeat (first | (with_reducible first | exact HB.out | apply below_alloc | apply pw_below_drewN | apply below_drew1 | refine below_set ?_ GE120101.out | refine below_set ?_ GE120117.out) | exact HB.out)⟩⟩
                          · rw [if_neg c31] at H
                            have c31b0 : (t120115 == 30) = false := beq_eq_false_iff_ne.mpr c31
                            have c31b1 : (t120115 != 30) = true := bne_iff_ne.mpr c31
                            have H' := Aside0.mk H
                            clear H
                            go_wp2
                            go_meet
                            case rel => exact ⟨_, (true), (by first | rfl | (simp; done) | (simp [*]; done)), H', ⟨by have := HK1.out; first | omega | exact Nat.le_refl _⟩, ⟨by (with_reducible repeat (first | apply Kd.R_alloc | apply Kd.R_drewN | apply Kd.R_drew)); exact Kd.R_mono (Kd.R_far (p := ⟨gb120117, 2, none⟩) (Kd.R_far (p := ⟨gb120117, 1, none⟩) (Kd.R_far (p := ⟨gb120117, 0, none⟩) (Kd.R_types HO_9.out BK120117.out (by decide)) (fun _ hk => hk.2) (.int .i64 t120112)) (fun _ hk => hk.2) (.int .i64 t120113)) (fun _ hk => hk.2) (.int .i64 t120114)) (fun _ hk => trivial)⟩, ⟨by (with_reducible repeat (first | refine blk_drewN ?_ _ | refine blk_drew ?_ | refine blk_alloc ?_ _)); refine blk_far ?_ NB120101_120117.out _; (with_reducible repeat (first | refine blk_drewN ?_ _ | refine blk_drew ?_ | refine blk_alloc ?_ _)); refine blk_far ?_ NB120101_120117.out _; (with_reducible repeat (first | refine blk_drewN ?_ _ | refine blk_drew ?_ | refine blk_alloc ?_ _)); refine blk_far ?_ NB120101_120117.out _; (with_reducible repeat (first | refine blk_drewN ?_ _ | refine blk_drew ?_ | refine blk_alloc ?_ _)); exact BK120101.out⟩, ⟨by (with_reducible repeat (first | refine blk_drewN ?_ _ | refine blk_drew ?_ | refine blk_alloc ?_ _)); refine blk_put (cs := #[.int .i64 t120112, .int .i64 t120113, .int .i64 0]) ?_ 2 _ rfl; (with_reducible repeat (first | refine blk_drewN ?_ _ | refine blk_drew ?_ | refine blk_alloc ?_ _)); refine blk_put (cs := #[.int .i64 t120112, .int .i64 0, .int .i64 0]) ?_ 1 _ rfl; (with_reducible repeat (first | refine blk_drewN ?_ _ | refine blk_drew ?_ | refine blk_alloc ?_ _)); refine blk_put (cs := #[.int .i64 0, .int .i64 0, .int .i64 0]) ?_ 0 _ rfl; (with_reducible repeat (first | refine blk_drewN ?_ _ | refine blk_drew ?_ | refine blk_alloc ?_ _)); exact BK120117.out⟩, ⟨by repeat (first | (with_reducible first | exact HB.out | apply below_alloc | apply pw_below_drewN | apply below_drew1 | refine below_set ?_ GE120101.out | refine below_set ?_ GE120117.out) | exact HB.out)⟩⟩
                    case rest =>
                      clear HC21
                      try clear c1
                      try clear p1
                      try clear q1
                      try clear hx1
                      try clear c2
                      try clear p2
                      try clear c3
                      try clear p6
                      try clear c8
                      try clear c12
                      try clear c12b0
                      try clear p12
                      try clear q12
                      try clear hx12
                      try clear c13
                      try clear c13b0
                      try clear c14
                      try clear c14b0
                      try clear c15
                      try clear c15b0
                      try clear c15b1
                      try clear c18
                      try clear c18b0
                      try clear c18b1
                      try clear c19
                      try clear c19b0
                      try clear c19b1
                      try clear c21
                      try clear c25
                      try clear c27
                      try clear c27b0
                      try clear c27b1
                      try clear c28
                      try clear c28b0
                      try clear c28b1
                      try clear c29
                      try clear c29b0
                      try clear c29b1
                      try clear c30
                      try clear c30b0
                      try clear c30b1
                      try clear c31
                      try clear c31b0
                      try clear c31b1
                      try clear hcz26_0
                      try clear hcz26_1
                      try clear hcz26_2
                      try clear hfz26_0
                      try clear hfz26_1
                      try clear hfz26_2
                      try clear hx120110_0
                      try clear p120110
                      try clear p2
                      try clear q120110
                      obtain ⟨kq, x78_20, rfl, HA, HJ20, HO_9, BK120101, BK120117, HB⟩ := hcut
                      cases kq with
                      | zero => exact absurd HA.out (by simp [larderlaw03_CalCut.j1])
                      | succ kj20 =>
                        have H := HA.out
                        clear HA
                        simp only [larderlaw03_CalCut.j1] at H
                        by_cases c32 : x78_20 = true
                        · subst c32
                          have H1 : (some false) = some r := by rw [if_pos rfl] at H; exact H
                          clear H
                          have H := H1
                          clear H1
                          obtain rfl := Option.some.inj H
                          go_wp2
                          go_ret
                          exact ⟨by first | rfl | (simp [errW_none, errW_some] <;> rfl) | (simp [*, errW_none, errW_some] <;> rfl), by repeat (first | (with_reducible first | exact HB.out | apply below_alloc | apply pw_below_drewN | apply below_drew1 | refine below_set ?_ GE120101.out | refine below_set ?_ GE120117.out) | exact HB.out)⟩
                        · replace c32 := Bool.eq_false_iff.mpr c32
                          subst c32
                          have H1 : (if (rdOf ByteArray.empty t120106 x11_1).size + 1 ≤ 9223372036854775807 then ((cal_ParseDate.f ((rdOf ByteArray.empty t120106 x11_1) ++ (⟨#[33]⟩ : ByteArray))).bind fun bt120118 => (if bt120118.2.2.2.1 = 31 then (if bt120118.2.2.2.2 = ((rdOf ByteArray.empty t120106 x11_1).size : Int) then (larderlaw03_CalCut.l0 kj20 a1 a3 t120106 (wrap64 (x11_1 + 1)) a2_0 a2_1 a2_2 a2_3 a2_4 a2_5 a2_6) else (some false)) else (some false))) else (none)) = some r := by rw [if_neg (show ¬ (false = true) by decide)] at H; exact H
                          clear H
                          have H := H1
                          clear H1
                          by_cases c33 : (rdOf ByteArray.empty t120106 x11_1).size + 1 ≤ 9223372036854775807
                          · rw [if_pos c33] at H
                            have c33b0 := eq_true c33
                            have c33b1 : decide ((rdOf ByteArray.empty t120106 x11_1).size + 1 ≤ 9223372036854775807) = true := decide_eq_true c33
                            try have c33b2 : (9223372036854775807 < (rdOf ByteArray.empty t120106 x11_1).size + 1) = False := eq_false (Nat.not_lt.2 c33)
                            replace H := Option.bind_eq_some_iff.mp H
                            obtain ⟨⟨t120118, t120119, t120120, t120121, t120122⟩, A340, H⟩ := H
                            replace H : (if t120121 = 31 then (if t120122 = ((rdOf ByteArray.empty t120106 x11_1).size : Int) then (larderlaw03_CalCut.l0 kj20 a1 a3 t120106 (wrap64 (x11_1 + 1)) a2_0 a2_1 a2_2 a2_3 a2_4 a2_5 a2_6) else (some false)) else (some false)) = some r := H
                            have A34 := Aside0.mk A340
                            clear A340
                            by_cases c35 : t120121 = 31
                            · rw [if_pos c35] at H
                              have c35b0 : (t120121 == 31) = true := beq_iff_eq.mpr c35
                              have c35b1 : (t120121 != 31) = false := bne_eq_false_iff_eq.mpr c35
                              clear c35
                              by_cases c36 : t120122 = ((rdOf ByteArray.empty t120106 x11_1).size : Int)
                              · rw [if_pos c36] at H
                                have c36b0 : (t120122 == ((rdOf ByteArray.empty t120106 x11_1).size : Int)) = true := beq_iff_eq.mpr c36
                                have c36b1 : (t120122 != ((rdOf ByteArray.empty t120106 x11_1).size : Int)) = false := bne_eq_false_iff_eq.mpr c36
                                clear c36
                                have H' := Aside0.mk H
                                clear H
                                go_wp2_with (first | ((with_reducible refine gate_callee (f := 21) rfl ?_); refine goesL_ (some 82) rfl rfl Tryd.func21 (by kernel_rfl) rfl #[.string ((rdOf ByteArray.empty t120106 x11_1) ++ (⟨#[33]⟩ : ByteArray))] rfl (by (try simp only [List.map_toArray, List.map_cons, List.map_nil]); first | done | rfl | (simp only [List.length_drop, List.length_take]; rfl)) ?_; (with_reducible refine (cal_ParseDate.calls ((rdOf ByteArray.empty t120106 x11_1) ++ (⟨#[33]⟩ : ByteArray)) t120118 t120119 t120120 t120121 t120122 _ ?side1 A34.out).mono ?_); (case side1 => refine GlobOk.below HG.out ?_; repeat (first | (with_reducible first | exact HB.out | apply below_alloc | apply pw_below_drewN | apply below_drew1 | refine below_set ?_ GE120101.out | refine below_set ?_ GE120117.out) | exact HB.out)); rintro e w37 ⟨rfl, hb⟩; refine ⟨_, rfl, ?_⟩; have n0_ := Aside0.mk (Kd.R_below (by (with_reducible repeat (first | apply Kd.R_alloc | apply Kd.R_drewN | apply Kd.R_drew)); exact HO_9.out) hb); have n1_ := Aside0.mk (blk_below (g := gb120101) (o := .cells #[.int .i64 a2_0, .int .i64 a2_1, .int .i64 a2_2, .int .i64 a2_3, .int .i64 a2_4, .int .i64 a2_5, .int .i64 a2_6] 30 (0, 0)) (by (with_reducible repeat (first | refine blk_drewN ?_ _ | refine blk_drew ?_ | refine blk_alloc ?_ _)); exact BK120101.out) hb); have n2_ := Aside0.mk (blk_below (g := gb120117) (o := .cells #[.int .i64 t120112, .int .i64 t120113, .int .i64 t120114] 23 (0, 0)) (by (with_reducible repeat (first | refine blk_drewN ?_ _ | refine blk_drew ?_ | refine blk_alloc ?_ _)); exact BK120117.out) hb); have n3_ := Aside0.mk (below_step (by repeat (first | (with_reducible first | exact HB.out | apply below_alloc | apply pw_below_drewN | apply below_drew1 | refine below_set ?_ GE120101.out | refine below_set ?_ GE120117.out) | exact HB.out)) hb); clear HO_9; clear BK120101; clear BK120117; clear HB; have HO_9 := n0_; have BK120101 := n1_; have BK120117 := n2_; have HB := n3_; clear n0_ n1_ n2_ n3_; (try clear hb); (try clear hb2); (try clear hk); (try clear hi)))
                                go_roundg kj20
                                case measure => have := HK1.out; have := HJ20.out; omega
                                case rel => exact ⟨(wrap64 (x11_1 + 1)), (by first | rfl | (simp; done) | (simp [*]; done)), H', ⟨by have := HK1.out; have := HJ20.out; omega⟩, ⟨by (with_reducible repeat (first | apply Kd.R_alloc | apply Kd.R_drewN | apply Kd.R_drew)); exact HO_9.out⟩, ⟨by (with_reducible repeat (first | refine blk_drewN ?_ _ | refine blk_drew ?_ | refine blk_alloc ?_ _)); exact BK120101.out⟩, ⟨by repeat (first | (with_reducible first | exact HB.out | apply below_alloc | apply pw_below_drewN | apply below_drew1 | refine below_set ?_ GE120101.out | refine below_set ?_ GE120117.out) | exact HB.out)⟩⟩
                              · rw [if_neg c36] at H
                                have c36b0 : (t120122 == ((rdOf ByteArray.empty t120106 x11_1).size : Int)) = false := beq_eq_false_iff_ne.mpr c36
                                have c36b1 : (t120122 != ((rdOf ByteArray.empty t120106 x11_1).size : Int)) = true := bne_iff_ne.mpr c36
                                obtain rfl := Option.some.inj H
                                go_wp2_with (first | ((with_reducible refine gate_callee (f := 21) rfl ?_); refine goesL_ (some 82) rfl rfl Tryd.func21 (by kernel_rfl) rfl #[.string ((rdOf ByteArray.empty t120106 x11_1) ++ (⟨#[33]⟩ : ByteArray))] rfl (by (try simp only [List.map_toArray, List.map_cons, List.map_nil]); first | done | rfl | (simp only [List.length_drop, List.length_take]; rfl)) ?_; (with_reducible refine (cal_ParseDate.calls ((rdOf ByteArray.empty t120106 x11_1) ++ (⟨#[33]⟩ : ByteArray)) t120118 t120119 t120120 t120121 t120122 _ ?side1 A34.out).mono ?_); (case side1 => refine GlobOk.below HG.out ?_; repeat (first | (with_reducible first | exact HB.out | apply below_alloc | apply pw_below_drewN | apply below_drew1 | refine below_set ?_ GE120101.out | refine below_set ?_ GE120117.out) | exact HB.out)); rintro e w38 ⟨rfl, hb⟩; refine ⟨_, rfl, ?_⟩; have n0_ := Aside0.mk (Kd.R_below (by (with_reducible repeat (first | apply Kd.R_alloc | apply Kd.R_drewN | apply Kd.R_drew)); exact HO_9.out) hb); have n1_ := Aside0.mk (blk_below (g := gb120101) (o := .cells #[.int .i64 a2_0, .int .i64 a2_1, .int .i64 a2_2, .int .i64 a2_3, .int .i64 a2_4, .int .i64 a2_5, .int .i64 a2_6] 30 (0, 0)) (by (with_reducible repeat (first | refine blk_drewN ?_ _ | refine blk_drew ?_ | refine blk_alloc ?_ _)); exact BK120101.out) hb); have n2_ := Aside0.mk (blk_below (g := gb120117) (o := .cells #[.int .i64 t120112, .int .i64 t120113, .int .i64 t120114] 23 (0, 0)) (by (with_reducible repeat (first | refine blk_drewN ?_ _ | refine blk_drew ?_ | refine blk_alloc ?_ _)); exact BK120117.out) hb); have n3_ := Aside0.mk (below_step (by repeat (first | (with_reducible first | exact HB.out | apply below_alloc | apply pw_below_drewN | apply below_drew1 | refine below_set ?_ GE120101.out | refine below_set ?_ GE120117.out) | exact HB.out)) hb); clear HO_9; clear BK120101; clear BK120117; clear HB; have HO_9 := n0_; have BK120101 := n1_; have BK120117 := n2_; have HB := n3_; clear n0_ n1_ n2_ n3_; (try clear hb); (try clear hb2); (try clear hk); (try clear hi)))
                                go_ret
                                exact ⟨by first | rfl | (simp [errW_none, errW_some] <;> rfl) | (simp [*, errW_none, errW_some] <;> rfl), by repeat (first | (with_reducible first | exact HB.out | apply below_alloc | apply pw_below_drewN | apply below_drew1 | refine below_set ?_ GE120101.out | refine below_set ?_ GE120117.out) | exact HB.out)⟩
                            · rw [if_neg c35] at H
                              have c35b0 : (t120121 == 31) = false := beq_eq_false_iff_ne.mpr c35
                              have c35b1 : (t120121 != 31) = true := bne_iff_ne.mpr c35
                              obtain rfl := Option.some.inj H
                              go_wp2_with (first | ((with_reducible refine gate_callee (f := 21) rfl ?_); refine goesL_ (some 82) rfl rfl Tryd.func21 (by kernel_rfl) rfl #[.string ((rdOf ByteArray.empty t120106 x11_1) ++ (⟨#[33]⟩ : ByteArray))] rfl (by (try simp only [List.map_toArray, List.map_cons, List.map_nil]); first | done | rfl | (simp only [List.length_drop, List.length_take]; rfl)) ?_; (with_reducible refine (cal_ParseDate.calls ((rdOf ByteArray.empty t120106 x11_1) ++ (⟨#[33]⟩ : ByteArray)) t120118 t120119 t120120 t120121 t120122 _ ?side1 A34.out).mono ?_); (case side1 => refine GlobOk.below HG.out ?_; repeat (first | (with_reducible first | exact HB.out | apply below_alloc | apply pw_below_drewN | apply below_drew1 | refine below_set ?_ GE120101.out | refine below_set ?_ GE120117.out) | exact HB.out)); rintro e w39 ⟨rfl, hb⟩; refine ⟨_, rfl, ?_⟩; have n0_ := Aside0.mk (Kd.R_below (by (with_reducible repeat (first | apply Kd.R_alloc | apply Kd.R_drewN | apply Kd.R_drew)); exact HO_9.out) hb); have n1_ := Aside0.mk (blk_below (g := gb120101) (o := .cells #[.int .i64 a2_0, .int .i64 a2_1, .int .i64 a2_2, .int .i64 a2_3, .int .i64 a2_4, .int .i64 a2_5, .int .i64 a2_6] 30 (0, 0)) (by (with_reducible repeat (first | refine blk_drewN ?_ _ | refine blk_drew ?_ | refine blk_alloc ?_ _)); exact BK120101.out) hb); have n2_ := Aside0.mk (blk_below (g := gb120117) (o := .cells #[.int .i64 t120112, .int .i64 t120113, .int .i64 t120114] 23 (0, 0)) (by (with_reducible repeat (first | refine blk_drewN ?_ _ | refine blk_drew ?_ | refine blk_alloc ?_ _)); exact BK120117.out) hb); have n3_ := Aside0.mk (below_step (by repeat (first | (with_reducible first | exact HB.out | apply below_alloc | apply pw_below_drewN | apply below_drew1 | refine below_set ?_ GE120101.out | refine below_set ?_ GE120117.out) | exact HB.out)) hb); clear HO_9; clear BK120101; clear BK120117; clear HB; have HO_9 := n0_; have BK120101 := n1_; have BK120117 := n2_; have HB := n3_; clear n0_ n1_ n2_ n3_; (try clear hb); (try clear hb2); (try clear hk); (try clear hi)))
                              go_ret
                              exact ⟨by first | rfl | (simp [errW_none, errW_some] <;> rfl) | (simp [*, errW_none, errW_some] <;> rfl), by repeat (first | (with_reducible first | exact HB.out | apply below_alloc | apply pw_below_drewN | apply below_drew1 | refine below_set ?_ GE120101.out | refine below_set ?_ GE120117.out) | exact HB.out)⟩
                          · rw [if_neg c33] at H
                            exact absurd H (by simp)
                  · rw [if_neg c19] at H
                    exact absurd H (by simp)
                · rw [if_neg c18] at H
                  exact absurd H (by simp)
            · rw [if_neg c14] at H
              exact absurd H (by simp)
          · rw [if_neg c13] at H
            exact absurd H (by simp)
        · rw [if_neg c12] at H
          have c12b0 : decide (x11_1 < 6) = false := decide_eq_false c12
          clear c12
          replace H := Option.bind_eq_some_iff.mp H
          obtain ⟨t120123, A400, H⟩ := H
          replace H : ((cal_PrintInstant.f k1 t120123 0).bind fun bt120124 => (if (bt120124.1.size : Int) = 20 then ((larderlaw03_within.f a3 0 (wrap64 ((bt120124.1.size : Int) - 1))).bind fun t120126 => (if 0 ≤ t120126 then (if t120126 ≤ (bt120124.1.size : Int) then ((cal_ParseInstant.f (bt120124.1.extract 0 (t120126 : Int).toNat)).bind fun bt120127 => (if bt120124.1.size + 1 ≤ 9223372036854775807 then ((cal_ParseInstant.f (bt120124.1 ++ (⟨#[33]⟩ : ByteArray))).bind fun bt120130 => (if bt120124.2 = 0 then (if bt120127.2.1 = 0 then (larderlaw03_CalCut.j2 k1 a3 true a2_0 a2_1 a2_2 a2_3 a2_4 a2_5 a2_6) else (if bt120127.2.2 > t120126 then (larderlaw03_CalCut.j2 k1 a3 true a2_0 a2_1 a2_2 a2_3 a2_4 a2_5 a2_6) else (if bt120130.2.1 = 33 then (larderlaw03_CalCut.j2 k1 a3 (bt120130.2.2 != (bt120124.1.size : Int)) a2_0 a2_1 a2_2 a2_3 a2_4 a2_5 a2_6) else (larderlaw03_CalCut.j2 k1 a3 true a2_0 a2_1 a2_2 a2_3 a2_4 a2_5 a2_6)))) else (larderlaw03_CalCut.j2 k1 a3 true a2_0 a2_1 a2_2 a2_3 a2_4 a2_5 a2_6))) else (none))) else (none)) else (none))) else (some false))) = some r := H
          have A40 := Aside0.mk A400
          clear A400
          replace H := Option.bind_eq_some_iff.mp H
          obtain ⟨⟨t120124, t120125⟩, A410, H⟩ := H
          replace H : (if (t120124.size : Int) = 20 then ((larderlaw03_within.f a3 0 (wrap64 ((t120124.size : Int) - 1))).bind fun t120126 => (if 0 ≤ t120126 then (if t120126 ≤ (t120124.size : Int) then ((cal_ParseInstant.f (t120124.extract 0 (t120126 : Int).toNat)).bind fun bt120127 => (if t120124.size + 1 ≤ 9223372036854775807 then ((cal_ParseInstant.f (t120124 ++ (⟨#[33]⟩ : ByteArray))).bind fun bt120130 => (if t120125 = 0 then (if bt120127.2.1 = 0 then (larderlaw03_CalCut.j2 k1 a3 true a2_0 a2_1 a2_2 a2_3 a2_4 a2_5 a2_6) else (if bt120127.2.2 > t120126 then (larderlaw03_CalCut.j2 k1 a3 true a2_0 a2_1 a2_2 a2_3 a2_4 a2_5 a2_6) else (if bt120130.2.1 = 33 then (larderlaw03_CalCut.j2 k1 a3 (bt120130.2.2 != (t120124.size : Int)) a2_0 a2_1 a2_2 a2_3 a2_4 a2_5 a2_6) else (larderlaw03_CalCut.j2 k1 a3 true a2_0 a2_1 a2_2 a2_3 a2_4 a2_5 a2_6)))) else (larderlaw03_CalCut.j2 k1 a3 true a2_0 a2_1 a2_2 a2_3 a2_4 a2_5 a2_6))) else (none))) else (none)) else (none))) else (some false)) = some r := H
          have A41 := Aside0.mk A410
          clear A410
          by_cases c42 : (t120124.size : Int) = 20
          · rw [if_pos c42] at H
            have c42b0 : ((t120124.size : Int) == 20) = true := beq_iff_eq.mpr c42
            have c42b1 : ((t120124.size : Int) != 20) = false := bne_eq_false_iff_eq.mpr c42
            clear c42
            replace H := Option.bind_eq_some_iff.mp H
            obtain ⟨t120126, A430, H⟩ := H
            replace H : (if 0 ≤ t120126 then (if t120126 ≤ (t120124.size : Int) then ((cal_ParseInstant.f (t120124.extract 0 (t120126 : Int).toNat)).bind fun bt120127 => (if t120124.size + 1 ≤ 9223372036854775807 then ((cal_ParseInstant.f (t120124 ++ (⟨#[33]⟩ : ByteArray))).bind fun bt120130 => (if t120125 = 0 then (if bt120127.2.1 = 0 then (larderlaw03_CalCut.j2 k1 a3 true a2_0 a2_1 a2_2 a2_3 a2_4 a2_5 a2_6) else (if bt120127.2.2 > t120126 then (larderlaw03_CalCut.j2 k1 a3 true a2_0 a2_1 a2_2 a2_3 a2_4 a2_5 a2_6) else (if bt120130.2.1 = 33 then (larderlaw03_CalCut.j2 k1 a3 (bt120130.2.2 != (t120124.size : Int)) a2_0 a2_1 a2_2 a2_3 a2_4 a2_5 a2_6) else (larderlaw03_CalCut.j2 k1 a3 true a2_0 a2_1 a2_2 a2_3 a2_4 a2_5 a2_6)))) else (larderlaw03_CalCut.j2 k1 a3 true a2_0 a2_1 a2_2 a2_3 a2_4 a2_5 a2_6))) else (none))) else (none)) else (none)) = some r := H
            have A43 := Aside0.mk A430
            clear A430
            have A43b := Aside0.mk ((show wrap64 ((t120124.size : Int) - 1) = (t120124.size : Int) - 1 by have h_ := beq_iff_eq.1 c42b0; rw [h_]; decide +kernel) ▸ A43.out)
            by_cases c44 : 0 ≤ t120126
            · rw [if_pos c44] at H
              have c44b0 := eq_true c44
              have c44b1 : decide (0 ≤ t120126) = true := decide_eq_true c44
              clear c44
              by_cases c45 : t120126 ≤ (t120124.size : Int)
              · rw [if_pos c45] at H
                have c45b0 := eq_true c45
                have c45b1 : decide (t120126 ≤ (t120124.size : Int)) = true := decide_eq_true c45
                clear c45
                replace H := Option.bind_eq_some_iff.mp H
                obtain ⟨⟨t120127, t120128, t120129⟩, A460, H⟩ := H
                replace H : (if t120124.size + 1 ≤ 9223372036854775807 then ((cal_ParseInstant.f (t120124 ++ (⟨#[33]⟩ : ByteArray))).bind fun bt120130 => (if t120125 = 0 then (if t120128 = 0 then (larderlaw03_CalCut.j2 k1 a3 true a2_0 a2_1 a2_2 a2_3 a2_4 a2_5 a2_6) else (if t120129 > t120126 then (larderlaw03_CalCut.j2 k1 a3 true a2_0 a2_1 a2_2 a2_3 a2_4 a2_5 a2_6) else (if bt120130.2.1 = 33 then (larderlaw03_CalCut.j2 k1 a3 (bt120130.2.2 != (t120124.size : Int)) a2_0 a2_1 a2_2 a2_3 a2_4 a2_5 a2_6) else (larderlaw03_CalCut.j2 k1 a3 true a2_0 a2_1 a2_2 a2_3 a2_4 a2_5 a2_6)))) else (larderlaw03_CalCut.j2 k1 a3 true a2_0 a2_1 a2_2 a2_3 a2_4 a2_5 a2_6))) else (none)) = some r := H
                have A46 := Aside0.mk A460
                clear A460
                by_cases c47 : t120124.size + 1 ≤ 9223372036854775807
                · rw [if_pos c47] at H
                  have c47b0 := eq_true c47
                  have c47b1 : decide (t120124.size + 1 ≤ 9223372036854775807) = true := decide_eq_true c47
                  try have c47b2 : (9223372036854775807 < t120124.size + 1) = False := eq_false (Nat.not_lt.2 c47)
                  replace H := Option.bind_eq_some_iff.mp H
                  obtain ⟨⟨t120130, t120131, t120132⟩, A480, H⟩ := H
                  replace H : (if t120125 = 0 then (if t120128 = 0 then (larderlaw03_CalCut.j2 k1 a3 true a2_0 a2_1 a2_2 a2_3 a2_4 a2_5 a2_6) else (if t120129 > t120126 then (larderlaw03_CalCut.j2 k1 a3 true a2_0 a2_1 a2_2 a2_3 a2_4 a2_5 a2_6) else (if t120131 = 33 then (larderlaw03_CalCut.j2 k1 a3 (t120132 != (t120124.size : Int)) a2_0 a2_1 a2_2 a2_3 a2_4 a2_5 a2_6) else (larderlaw03_CalCut.j2 k1 a3 true a2_0 a2_1 a2_2 a2_3 a2_4 a2_5 a2_6)))) else (larderlaw03_CalCut.j2 k1 a3 true a2_0 a2_1 a2_2 a2_3 a2_4 a2_5 a2_6)) = some r := H
                  have A48 := Aside0.mk A480
                  clear A480
                  have HC49 := Aside0.mk H
                  clear H
                  go_upto_region 23 with (first | ((with_reducible refine gate_callee (f := 14) rfl ?_); refine goesL_ (some 96) rfl rfl Tryd.func14 (by kernel_rfl) rfl #[.int .i64 a1, .int .i64 0, .int .i64 315569519999] rfl (by (try simp only [List.map_toArray, List.map_cons, List.map_nil]); first | done | rfl | (simp only [List.length_drop, List.length_take]; rfl)) ?_; (with_reducible refine (larderlaw03_within.calls a1 0 315569519999 t120123 _ A40.out).mono ?_); rintro e w' ⟨rfl, ⟨nd, rfl⟩⟩; refine ⟨_, rfl, ?_⟩) | ((with_reducible refine gate_callee (f := 19) rfl ?_); refine goesL_ (some 97) rfl rfl Tryd.func19 (by kernel_rfl) rfl #[.int .i64 t120123, .int .i64 0] rfl (by (try simp only [List.map_toArray, List.map_cons, List.map_nil]); first | done | rfl | (simp only [List.length_drop, List.length_take]; rfl)) ?_; (with_reducible refine (cal_PrintInstant.calls k1 t120123 0 t120124 t120125 _ ?side1 A41.out).mono ?_); (case side1 => refine GlobOk.below HG.out ?_; repeat (first | (with_reducible first | exact HB.out | apply below_alloc | apply pw_below_drewN | apply below_drew1 | refine below_set ?_ GE120101.out) | exact HB.out)); rintro e w50 ⟨rfl, hb⟩; refine ⟨_, rfl, ?_⟩; have n0_ := Aside0.mk (Kd.R_below (by (with_reducible repeat (first | apply Kd.R_alloc | apply Kd.R_drewN | apply Kd.R_drew)); exact HO_9.out) hb); have n1_ := Aside0.mk (blk_below (g := gb120101) (o := .cells #[.int .i64 a2_0, .int .i64 a2_1, .int .i64 a2_2, .int .i64 a2_3, .int .i64 a2_4, .int .i64 a2_5, .int .i64 a2_6] 30 (0, 0)) (by (with_reducible repeat (first | refine blk_drewN ?_ _ | refine blk_drew ?_ | refine blk_alloc ?_ _)); exact BK120101.out) hb); have n2_ := Aside0.mk (below_step (by repeat (first | (with_reducible first | exact HB.out | apply below_alloc | apply pw_below_drewN | apply below_drew1 | refine below_set ?_ GE120101.out) | exact HB.out)) hb); clear HO_9; clear BK120101; clear HB; have HO_9 := n0_; have BK120101 := n1_; have HB := n2_; clear n0_ n1_ n2_; (try clear hb); (try clear hb2); (try clear hk); (try clear hi)) | ((with_reducible refine gate_callee (f := 14) rfl ?_); refine goesL_ (some 107) rfl rfl Tryd.func14 (by kernel_rfl) rfl #[.int .i64 a3, .int .i64 0, .int .i64 ((t120124.size : Int) - 1)] rfl (by (try simp only [List.map_toArray, List.map_cons, List.map_nil]); first | done | rfl | (simp only [List.length_drop, List.length_take]; rfl)) ?_; (with_reducible refine (larderlaw03_within.calls a3 0 ((t120124.size : Int) - 1) t120126 _ A43b.out).mono ?_); rintro e w' ⟨rfl, ⟨nd, rfl⟩⟩; refine ⟨_, rfl, ?_⟩) | ((with_reducible refine gate_callee (f := 30) rfl ?_); refine goesL_ (some 112) rfl rfl Tryd.func30 (by kernel_rfl) rfl #[.string (t120124.extract 0 (t120126 : Int).toNat)] rfl (by (try simp only [List.map_toArray, List.map_cons, List.map_nil]); first | done | rfl | (simp only [List.length_drop, List.length_take]; rfl)) ?_; (with_reducible refine (cal_ParseInstant.calls (t120124.extract 0 (t120126 : Int).toNat) t120127 t120128 t120129 _ ?side1 A46.out).mono ?_); (case side1 => refine GlobOk.below HG.out ?_; repeat (first | (with_reducible first | exact HB.out | apply below_alloc | apply pw_below_drewN | apply below_drew1 | refine below_set ?_ GE120101.out) | exact HB.out)); rintro e w51 ⟨rfl, hb⟩; refine ⟨_, rfl, ?_⟩; have n0_ := Aside0.mk (Kd.R_below (by (with_reducible repeat (first | apply Kd.R_alloc | apply Kd.R_drewN | apply Kd.R_drew)); exact HO_9.out) hb); have n1_ := Aside0.mk (blk_below (g := gb120101) (o := .cells #[.int .i64 a2_0, .int .i64 a2_1, .int .i64 a2_2, .int .i64 a2_3, .int .i64 a2_4, .int .i64 a2_5, .int .i64 a2_6] 30 (0, 0)) (by (with_reducible repeat (first | refine blk_drewN ?_ _ | refine blk_drew ?_ | refine blk_alloc ?_ _)); exact BK120101.out) hb); have n2_ := Aside0.mk (below_step (by repeat (first | (with_reducible first | exact HB.out | apply below_alloc | apply pw_below_drewN | apply below_drew1 | refine below_set ?_ GE120101.out) | exact HB.out)) hb); clear HO_9; clear BK120101; clear HB; have HO_9 := n0_; have BK120101 := n1_; have HB := n2_; clear n0_ n1_ n2_; (try clear hb); (try clear hb2); (try clear hk); (try clear hi)) | ((with_reducible refine gate_callee (f := 30) rfl ?_); refine goesL_ (some 119) rfl rfl Tryd.func30 (by kernel_rfl) rfl #[.string (t120124 ++ (⟨#[33]⟩ : ByteArray))] rfl (by (try simp only [List.map_toArray, List.map_cons, List.map_nil]); first | done | rfl | (simp only [List.length_drop, List.length_take]; rfl)) ?_; (with_reducible refine (cal_ParseInstant.calls (t120124 ++ (⟨#[33]⟩ : ByteArray)) t120130 t120131 t120132 _ ?side1 A48.out).mono ?_); (case side1 => refine GlobOk.below HG.out ?_; repeat (first | (with_reducible first | exact HB.out | apply below_alloc | apply pw_below_drewN | apply below_drew1 | refine below_set ?_ GE120101.out) | exact HB.out)); rintro e w52 ⟨rfl, hb⟩; refine ⟨_, rfl, ?_⟩; have n0_ := Aside0.mk (Kd.R_below (by (with_reducible repeat (first | apply Kd.R_alloc | apply Kd.R_drewN | apply Kd.R_drew)); exact HO_9.out) hb); have n1_ := Aside0.mk (blk_below (g := gb120101) (o := .cells #[.int .i64 a2_0, .int .i64 a2_1, .int .i64 a2_2, .int .i64 a2_3, .int .i64 a2_4, .int .i64 a2_5, .int .i64 a2_6] 30 (0, 0)) (by (with_reducible repeat (first | refine blk_drewN ?_ _ | refine blk_drew ?_ | refine blk_alloc ?_ _)); exact BK120101.out) hb); have n2_ := Aside0.mk (below_step (by repeat (first | (with_reducible first | exact HB.out | apply below_alloc | apply pw_below_drewN | apply below_drew1 | refine below_set ?_ GE120101.out) | exact HB.out)) hb); clear HO_9; clear BK120101; clear HB; have HO_9 := n0_; have BK120101 := n1_; have HB := n2_; clear n0_ n1_ n2_; (try clear hb); (try clear hb2); (try clear hk); (try clear hi)))
                  (try simp only [Act.put, List.setIfInBounds_toArray, List.set_cons_zero, List.set_cons_succ])
                  go_cut [143] (fun v143 wc => ∃ (kq : Nat) (x143_48 : Bool), v143 = .bool x143_48 ∧ Aside0 (larderlaw03_CalCut.j2 kq a3 x143_48 a2_0 a2_1 a2_2 a2_3 a2_4 a2_5 a2_6 = some r) ∧ Aside0 (kq ≤ k1) ∧ Aside0 (wc.heap[gb120101]? = some (.cells #[.int .i64 a2_0, .int .i64 a2_1, .int .i64 a2_2, .int .i64 a2_3, .int .i64 a2_4, .int .i64 a2_5, .int .i64 a2_6] 30 (0, 0))) ∧ Aside0 (Below w.heap.size w wc))
                  case first =>
                    have H := HC49.out
                    clear HC49
                    by_cases c53 : t120125 = 0
                    · rw [if_pos c53] at H
                      have c53b0 : (t120125 == 0) = true := beq_iff_eq.mpr c53
                      have c53b1 : (t120125 != 0) = false := bne_eq_false_iff_eq.mpr c53
                      clear c53
                      (first | rw [c53b0] | (simp only [i64_w, i32_w]; rw [c53b0]) | skip)
                      by_cases c54 : t120128 = 0
                      · rw [if_pos c54] at H
                        have c54b0 : (t120128 == 0) = true := beq_iff_eq.mpr c54
                        have c54b1 : (t120128 != 0) = false := bne_eq_false_iff_eq.mpr c54
                        clear c54
                        have H' := Aside0.mk H
                        clear H
                        go_wp2
                        go_meet
                        case rel => exact ⟨_, (true), (by first | rfl | (simp; done) | (simp [*]; done)), H', ⟨by have := HK1.out; first | omega | exact Nat.le_refl _⟩, ⟨by (with_reducible repeat (first | refine blk_drewN ?_ _ | refine blk_drew ?_ | refine blk_alloc ?_ _)); exact BK120101.out⟩, ⟨by repeat (first | (with_reducible first | exact HB.out | apply below_alloc | apply pw_below_drewN | apply below_drew1 | refine below_set ?_ GE120101.out) | exact HB.out)⟩⟩
                      · rw [if_neg c54] at H
                        have c54b0 : (t120128 == 0) = false := beq_eq_false_iff_ne.mpr c54
                        have c54b1 : (t120128 != 0) = true := bne_iff_ne.mpr c54
                        by_cases c55 : t120129 > t120126
                        · rw [if_pos c55] at H
                          have c55b0 : decide (t120126 < t120129) = true := decide_eq_true c55
                          clear c55
                          have H' := Aside0.mk H
                          clear H
                          go_wp2
                          go_meet
                          case rel => exact ⟨_, (true), (by first | rfl | (simp; done) | (simp [*]; done)), H', ⟨by have := HK1.out; first | omega | exact Nat.le_refl _⟩, ⟨by (with_reducible repeat (first | refine blk_drewN ?_ _ | refine blk_drew ?_ | refine blk_alloc ?_ _)); exact BK120101.out⟩, ⟨by repeat (first | (with_reducible first | exact HB.out | apply below_alloc | apply pw_below_drewN | apply below_drew1 | refine below_set ?_ GE120101.out) | exact HB.out)⟩⟩
                        · rw [if_neg c55] at H
                          have c55b0 : decide (t120126 < t120129) = false := decide_eq_false c55
                          clear c55
                          by_cases c56 : t120131 = 33
                          · rw [if_pos c56] at H
                            have c56b0 : (t120131 == 33) = true := beq_iff_eq.mpr c56
                            have c56b1 : (t120131 != 33) = false := bne_eq_false_iff_eq.mpr c56
                            clear c56
                            have H' := Aside0.mk H
                            clear H
                            go_wp2
                            go_meet
                            case rel => exact ⟨_, ((t120132 != (t120124.size : Int))), (by first | rfl | (simp; done) | (simp [*]; done)), H', ⟨by have := HK1.out; first | omega | exact Nat.le_refl _⟩, ⟨by (with_reducible repeat (first | refine blk_drewN ?_ _ | refine blk_drew ?_ | refine blk_alloc ?_ _)); exact BK120101.out⟩, ⟨by repeat (first | (with_reducible first | exact HB.out | apply below_alloc | apply pw_below_drewN | apply below_drew1 | refine below_set ?_ GE120101.out) | exact HB.out)⟩⟩
                          · rw [if_neg c56] at H
                            have c56b0 : (t120131 == 33) = false := beq_eq_false_iff_ne.mpr c56
                            have c56b1 : (t120131 != 33) = true := bne_iff_ne.mpr c56
                            have H' := Aside0.mk H
                            clear H
                            go_wp2
                            go_meet
                            case rel => exact ⟨_, (true), (by first | rfl | (simp; done) | (simp [*]; done)), H', ⟨by have := HK1.out; first | omega | exact Nat.le_refl _⟩, ⟨by (with_reducible repeat (first | refine blk_drewN ?_ _ | refine blk_drew ?_ | refine blk_alloc ?_ _)); exact BK120101.out⟩, ⟨by repeat (first | (with_reducible first | exact HB.out | apply below_alloc | apply pw_below_drewN | apply below_drew1 | refine below_set ?_ GE120101.out) | exact HB.out)⟩⟩
                    · rw [if_neg c53] at H
                      have c53b0 : (t120125 == 0) = false := beq_eq_false_iff_ne.mpr c53
                      have c53b1 : (t120125 != 0) = true := bne_iff_ne.mpr c53
                      (first | rw [c53b0] | (simp only [i64_w, i32_w]; rw [c53b0]) | skip)
                      have H' := Aside0.mk H
                      clear H
                      go_wp2
                      go_meet
                      case rel => exact ⟨_, (true), (by first | rfl | (simp; done) | (simp [*]; done)), H', ⟨by have := HK1.out; first | omega | exact Nat.le_refl _⟩, ⟨by (with_reducible repeat (first | refine blk_drewN ?_ _ | refine blk_drew ?_ | refine blk_alloc ?_ _)); exact BK120101.out⟩, ⟨by repeat (first | (with_reducible first | exact HB.out | apply below_alloc | apply pw_below_drewN | apply below_drew1 | refine below_set ?_ GE120101.out) | exact HB.out)⟩⟩
                  case rest =>
                    clear HC49
                    try clear c1
                    try clear p1
                    try clear q1
                    try clear hx1
                    try clear c2
                    try clear p2
                    try clear c3
                    try clear c4
                    try clear c5
                    try clear p6
                    try clear c8
                    try clear c12
                    try clear c12b0
                    try clear p12
                    try clear q12
                    try clear hx12
                    try clear c13
                    try clear c13b0
                    try clear c14
                    try clear c14b0
                    try clear c15
                    try clear c15b0
                    try clear c15b1
                    try clear c18
                    try clear c18b0
                    try clear c18b1
                    try clear c19
                    try clear c19b0
                    try clear c19b1
                    try clear c21
                    try clear c25
                    try clear c27
                    try clear c27b0
                    try clear c27b1
                    try clear c28
                    try clear c28b0
                    try clear c28b1
                    try clear c29
                    try clear c29b0
                    try clear c29b1
                    try clear c30
                    try clear c30b0
                    try clear c30b1
                    try clear c31
                    try clear c31b0
                    try clear c31b1
                    try clear c32
                    try clear c33
                    try clear c33b0
                    try clear c33b1
                    try clear c33b2
                    try clear c35
                    try clear c35b0
                    try clear c35b1
                    try clear c36
                    try clear c36b0
                    try clear c36b1
                    try clear c42
                    try clear c42b0
                    try clear c42b1
                    try clear c44
                    try clear c44b0
                    try clear c44b1
                    try clear c45
                    try clear c45b0
                    try clear c45b1
                    try clear c47
                    try clear c47b0
                    try clear c47b1
                    try clear c47b2
                    try clear c53
                    try clear c53b0
                    try clear c53b1
                    try clear c54
                    try clear c54b0
                    try clear c54b1
                    try clear c55
                    try clear c55b0
                    try clear c56
                    try clear c56b0
                    try clear c56b1
                    try clear hcz26_0
                    try clear hcz26_1
                    try clear hcz26_2
                    try clear hfz26_0
                    try clear hfz26_1
                    try clear hfz26_2
                    try clear hx120110_0
                    try clear p1
                    try clear p12
                    try clear p120110
                    try clear p2
                    try clear p6
                    try clear q1
                    try clear q12
                    try clear q120110
                    obtain ⟨kq, x143_48, rfl, HA, HJ48, BK120101, HB⟩ := hcut
                    cases kq with
                    | zero => exact absurd HA.out (by simp [larderlaw03_CalCut.j2])
                    | succ kj48 =>
                      have H := HA.out
                      clear HA
                      simp only [larderlaw03_CalCut.j2] at H
                      by_cases c57 : x143_48 = true
                      · subst c57
                        have H1 : (some false) = some r := by rw [if_pos rfl] at H; exact H
                        clear H
                        have H := H1
                        clear H1
                        obtain rfl := Option.some.inj H
                        go_wp2
                        go_ret
                        exact ⟨by first | rfl | (simp [errW_none, errW_some] <;> rfl) | (simp [*, errW_none, errW_some] <;> rfl), by repeat (first | (with_reducible first | exact HB.out | apply below_alloc | apply pw_below_drewN | apply below_drew1 | refine below_set ?_ GE120101.out) | exact HB.out)⟩
                      · replace c57 := Bool.eq_false_iff.mpr c57
                        subst c57
                        have H1 : ((cal_PrintSpan.f a2_0 a2_1 a2_2 a2_3 a2_4 a2_5 a2_6).bind fun bt120133 => (if bt120133.2 = 0 then (larderlaw03_CalCut.j3 kj48 a3 bt120133.1) else (larderlaw03_CalCut.j3 kj48 a3 (⟨#[80, 49, 89, 50, 77, 51, 68, 84, 52, 72, 53, 77, 54, 83]⟩ : ByteArray)))) = some r := by rw [if_neg (show ¬ (false = true) by decide)] at H; exact H
                        clear H
                        have H := H1
                        clear H1
                        replace H := Option.bind_eq_some_iff.mp H
                        obtain ⟨⟨t120133, t120134⟩, A580, H⟩ := H
                        replace H : (if t120134 = 0 then (larderlaw03_CalCut.j3 kj48 a3 t120133) else (larderlaw03_CalCut.j3 kj48 a3 (⟨#[80, 49, 89, 50, 77, 51, 68, 84, 52, 72, 53, 77, 54, 83]⟩ : ByteArray))) = some r := H
                        have A58 := Aside0.mk A580
                        clear A580
                        have HC59 := Aside0.mk H
                        clear H
                        have hcz60_0 : wc.cell? ⟨gb120101, 0, none⟩ = some (.int .i64 a2_0) := (blk_cell BK120101.out 0).trans rfl
                        have hcz60_1 : wc.cell? ⟨gb120101, 1, none⟩ = some (.int .i64 a2_1) := (blk_cell BK120101.out 1).trans rfl
                        have hcz60_2 : wc.cell? ⟨gb120101, 2, none⟩ = some (.int .i64 a2_2) := (blk_cell BK120101.out 2).trans rfl
                        have hcz60_3 : wc.cell? ⟨gb120101, 3, none⟩ = some (.int .i64 a2_3) := (blk_cell BK120101.out 3).trans rfl
                        have hcz60_4 : wc.cell? ⟨gb120101, 4, none⟩ = some (.int .i64 a2_4) := (blk_cell BK120101.out 4).trans rfl
                        have hcz60_5 : wc.cell? ⟨gb120101, 5, none⟩ = some (.int .i64 a2_5) := (blk_cell BK120101.out 5).trans rfl
                        have hcz60_6 : wc.cell? ⟨gb120101, 6, none⟩ = some (.int .i64 a2_6) := (blk_cell BK120101.out 6).trans rfl
                        have hfz60_0 := blk_frozen BK120101.out 0
                        have hfz60_1 := blk_frozen BK120101.out 1
                        have hfz60_2 := blk_frozen BK120101.out 2
                        have hfz60_3 := blk_frozen BK120101.out 3
                        have hfz60_4 := blk_frozen BK120101.out 4
                        have hfz60_5 := blk_frozen BK120101.out 5
                        have hfz60_6 := blk_frozen BK120101.out 6
                        go_upto_if 150 with (first | ((with_reducible refine gate_callee (f := 32) rfl ?_); refine goesL_ (some 146) rfl rfl Tryd.func32 (by kernel_rfl) rfl #[.agg #[.int .i64 a2_0, .int .i64 a2_1, .int .i64 a2_2, .int .i64 a2_3, .int .i64 a2_4, .int .i64 a2_5, .int .i64 a2_6]] rfl (by (try simp only [List.map_toArray, List.map_cons, List.map_nil]); first | done | rfl | (simp only [List.length_drop, List.length_take]; rfl)) ?_; (with_reducible refine (cal_PrintSpan.calls a2_0 a2_1 a2_2 a2_3 a2_4 a2_5 a2_6 t120133 t120134 _ A58.out).mono ?_); rintro e w61 ⟨rfl, hb⟩; refine ⟨_, rfl, ?_⟩; have n0_ := Aside0.mk (blk_below (g := gb120101) (o := .cells #[.int .i64 a2_0, .int .i64 a2_1, .int .i64 a2_2, .int .i64 a2_3, .int .i64 a2_4, .int .i64 a2_5, .int .i64 a2_6] 30 (0, 0)) (by (with_reducible repeat (first | refine blk_drewN ?_ _ | refine blk_drew ?_ | refine blk_alloc ?_ _)); exact BK120101.out) hb); have n1_ := Aside0.mk (below_step (by repeat (first | (with_reducible first | exact HB.out | apply below_alloc | apply pw_below_drewN | apply below_drew1 | refine below_set ?_ GE120101.out) | exact HB.out)) hb); clear BK120101; clear HB; have BK120101 := n0_; have HB := n1_; clear n0_ n1_; (try clear hb); (try clear hb2); (try clear hk); (try clear hi)))
                        (try simp only [Act.put, List.setIfInBounds_toArray, List.set_cons_zero, List.set_cons_succ])
                        go_cut [17] (fun v17 wc => ∃ (kq : Nat) (x17_58 : ByteArray), v17 = .string x17_58 ∧ Aside0 (larderlaw03_CalCut.j3 kq a3 x17_58 = some r) ∧ Aside0 (kq ≤ kj48) ∧ Aside0 (wc.heap[gb120101]? = some (.cells #[.int .i64 a2_0, .int .i64 a2_1, .int .i64 a2_2, .int .i64 a2_3, .int .i64 a2_4, .int .i64 a2_5, .int .i64 a2_6] 30 (0, 0))) ∧ Aside0 (Below w.heap.size w wc))
                        case first =>
                          have H := HC59.out
                          clear HC59
                          by_cases c62 : t120134 = 0
                          · rw [if_pos c62] at H
                            have c62b0 : (t120134 == 0) = true := beq_iff_eq.mpr c62
                            have c62b1 : (t120134 != 0) = false := bne_eq_false_iff_eq.mpr c62
                            clear c62
                            (first | rw [c62b0] | (simp only [i64_w, i32_w]; rw [c62b0]) | skip)
                            have H' := Aside0.mk H
                            clear H
                            go_wp2
                            go_meet
                            case rel => exact ⟨_, (t120133), (by first | rfl | (simp; done) | (simp [*]; done)), H', ⟨by have := HK1.out; have := HJ48.out; first | omega | exact Nat.le_refl _⟩, ⟨by (with_reducible repeat (first | refine blk_drewN ?_ _ | refine blk_drew ?_ | refine blk_alloc ?_ _)); exact BK120101.out⟩, ⟨by repeat (first | (with_reducible first | exact HB.out | apply below_alloc | apply pw_below_drewN | apply below_drew1 | refine below_set ?_ GE120101.out) | exact HB.out)⟩⟩
                          · rw [if_neg c62] at H
                            have c62b0 : (t120134 == 0) = false := beq_eq_false_iff_ne.mpr c62
                            have c62b1 : (t120134 != 0) = true := bne_iff_ne.mpr c62
                            (first | rw [c62b0] | (simp only [i64_w, i32_w]; rw [c62b0]) | skip)
                            have H' := Aside0.mk H
                            clear H
                            go_wp2
                            go_meet
                            case rel => exact ⟨_, ((⟨#[80, 49, 89, 50, 77, 51, 68, 84, 52, 72, 53, 77, 54, 83]⟩ : ByteArray)), (by first | rfl | (simp; done) | (simp [*]; done)), H', ⟨by have := HK1.out; have := HJ48.out; first | omega | exact Nat.le_refl _⟩, ⟨by (with_reducible repeat (first | refine blk_drewN ?_ _ | refine blk_drew ?_ | refine blk_alloc ?_ _)); exact BK120101.out⟩, ⟨by repeat (first | (with_reducible first | exact HB.out | apply below_alloc | apply pw_below_drewN | apply below_drew1 | refine below_set ?_ GE120101.out) | exact HB.out)⟩⟩
                        case rest =>
                          clear HC59
                          try clear c1
                          try clear p1
                          try clear q1
                          try clear hx1
                          try clear c2
                          try clear p2
                          try clear c3
                          try clear c4
                          try clear c5
                          try clear c6
                          try clear p6
                          try clear c8
                          try clear c12
                          try clear c12b0
                          try clear p12
                          try clear q12
                          try clear hx12
                          try clear c13
                          try clear c13b0
                          try clear c14
                          try clear c14b0
                          try clear c15
                          try clear c15b0
                          try clear c15b1
                          try clear c18
                          try clear c18b0
                          try clear c18b1
                          try clear c19
                          try clear c19b0
                          try clear c19b1
                          try clear c21
                          try clear c25
                          try clear c27
                          try clear c27b0
                          try clear c27b1
                          try clear c28
                          try clear c28b0
                          try clear c28b1
                          try clear c29
                          try clear c29b0
                          try clear c29b1
                          try clear c30
                          try clear c30b0
                          try clear c30b1
                          try clear c31
                          try clear c31b0
                          try clear c31b1
                          try clear c32
                          try clear c33
                          try clear c33b0
                          try clear c33b1
                          try clear c33b2
                          try clear c35
                          try clear c35b0
                          try clear c35b1
                          try clear c36
                          try clear c36b0
                          try clear c36b1
                          try clear c42
                          try clear c42b0
                          try clear c42b1
                          try clear c44
                          try clear c44b0
                          try clear c44b1
                          try clear c45
                          try clear c45b0
                          try clear c45b1
                          try clear c47
                          try clear c47b0
                          try clear c47b1
                          try clear c47b2
                          try clear c53
                          try clear c53b0
                          try clear c53b1
                          try clear c54
                          try clear c54b0
                          try clear c54b1
                          try clear c55
                          try clear c55b0
                          try clear c56
                          try clear c56b0
                          try clear c56b1
                          try clear c57
                          try clear c62
                          try clear c62b0
                          try clear c62b1
                          try clear hcz26_0
                          try clear hcz26_1
                          try clear hcz26_2
                          try clear hcz60_0
                          try clear hcz60_1
                          try clear hcz60_2
                          try clear hcz60_3
                          try clear hcz60_4
                          try clear hcz60_5
                          try clear hcz60_6
                          try clear hfz26_0
                          try clear hfz26_1
                          try clear hfz26_2
                          try clear hfz60_0
                          try clear hfz60_1
                          try clear hfz60_2
                          try clear hfz60_3
                          try clear hfz60_4
                          try clear hfz60_5
                          try clear hfz60_6
                          try clear hx120110_0
                          try clear p1
                          try clear p12
                          try clear p120110
                          try clear p2
                          try clear p6
                          try clear q1
                          try clear q12
                          try clear q120110
                          obtain ⟨kq, x17_58, rfl, HA, HJ58, BK120101, HB⟩ := hcut
                          cases kq with
                          | zero => exact absurd HA.out (by simp [larderlaw03_CalCut.j3])
                          | succ kj58 =>
                            have H := HA.out
                            clear HA
                            simp only [larderlaw03_CalCut.j3] at H
                            by_cases c63 : (x17_58.size : Int) < 3
                            · rw [if_pos c63] at H
                              have c63b0 : decide ((x17_58.size : Int) < 3) = true := decide_eq_true c63
                              have c63b1 : decide (x17_58.size < 3) = true := decide_eq_true (by omega)
                              clear c63
                              obtain rfl := Option.some.inj H
                              go_wp2
                              go_ret
                              exact ⟨by first | rfl | (simp [errW_none, errW_some] <;> rfl) | (simp [*, errW_none, errW_some] <;> rfl), by repeat (first | (with_reducible first | exact HB.out | apply below_alloc | apply pw_below_drewN | apply below_drew1 | refine below_set ?_ GE120101.out) | exact HB.out)⟩
                            · rw [if_neg c63] at H
                              have c63b0 : decide ((x17_58.size : Int) < 3) = false := decide_eq_false c63
                              have c63b1 : decide (x17_58.size < 3) = false := decide_eq_false (by omega)
                              clear c63
                              replace H := Option.bind_eq_some_iff.mp H
                              obtain ⟨t120135, A640, H⟩ := H
                              replace H : (if 0 ≤ t120135 then (if t120135 ≤ (x17_58.size : Int) then ((cal_ParseSpan.f (x17_58.extract 0 (t120135 : Int).toNat)).bind fun bt120136 => (if x17_58.size + 1 ≤ 9223372036854775807 then ((cal_ParseSpan.f (x17_58 ++ (⟨#[33]⟩ : ByteArray))).bind fun bt120145 => (if bt120136.2.2.2.2.2.2.2.1 = 0 then (if bt120145.2.2.2.2.2.2.2.1 = 34 then (some (bt120145.2.2.2.2.2.2.2.2 == (x17_58.size : Int))) else (some false)) else (if bt120136.2.2.2.2.2.2.2.1 = 34 then (if bt120136.2.2.2.2.2.2.2.2 = t120135 then (if bt120145.2.2.2.2.2.2.2.1 = 34 then (some (bt120145.2.2.2.2.2.2.2.2 == (x17_58.size : Int))) else (some false)) else (some false)) else (some false)))) else (none))) else (none)) else (none)) = some r := H
                              have A64 := Aside0.mk A640
                              clear A640
                              by_cases c65 : 0 ≤ t120135
                              · rw [if_pos c65] at H
                                have c65b0 := eq_true c65
                                have c65b1 : decide (0 ≤ t120135) = true := decide_eq_true c65
                                clear c65
                                by_cases c66 : t120135 ≤ (x17_58.size : Int)
                                · rw [if_pos c66] at H
                                  have c66b0 := eq_true c66
                                  have c66b1 : decide (t120135 ≤ (x17_58.size : Int)) = true := decide_eq_true c66
                                  clear c66
                                  replace H := Option.bind_eq_some_iff.mp H
                                  obtain ⟨⟨t120136, t120137, t120138, t120139, t120140, t120141, t120142, t120143, t120144⟩, A670, H⟩ := H
                                  replace H : (if x17_58.size + 1 ≤ 9223372036854775807 then ((cal_ParseSpan.f (x17_58 ++ (⟨#[33]⟩ : ByteArray))).bind fun bt120145 => (if t120143 = 0 then (if bt120145.2.2.2.2.2.2.2.1 = 34 then (some (bt120145.2.2.2.2.2.2.2.2 == (x17_58.size : Int))) else (some false)) else (if t120143 = 34 then (if t120144 = t120135 then (if bt120145.2.2.2.2.2.2.2.1 = 34 then (some (bt120145.2.2.2.2.2.2.2.2 == (x17_58.size : Int))) else (some false)) else (some false)) else (some false)))) else (none)) = some r := H
                                  have A67 := Aside0.mk A670
                                  clear A670
                                  by_cases c68 : x17_58.size + 1 ≤ 9223372036854775807
                                  · rw [if_pos c68] at H
                                    have c68b0 := eq_true c68
                                    have c68b1 : decide (x17_58.size + 1 ≤ 9223372036854775807) = true := decide_eq_true c68
                                    try have c68b2 : (9223372036854775807 < x17_58.size + 1) = False := eq_false (Nat.not_lt.2 c68)
                                    have A64b := Aside0.mk ((show wrap64 ((x17_58.size : Int) - 1) = (x17_58.size : Int) - 1 by have h_ := c68; unfold wrap64; omega) ▸ A64.out)
                                    replace H := Option.bind_eq_some_iff.mp H
                                    obtain ⟨⟨t120145, t120146, t120147, t120148, t120149, t120150, t120151, t120152, t120153⟩, A690, H⟩ := H
                                    replace H : (if t120143 = 0 then (if t120152 = 34 then (some (t120153 == (x17_58.size : Int))) else (some false)) else (if t120143 = 34 then (if t120144 = t120135 then (if t120152 = 34 then (some (t120153 == (x17_58.size : Int))) else (some false)) else (some false)) else (some false))) = some r := H
                                    have A69 := Aside0.mk A690
                                    clear A690
                                    by_cases c70 : t120143 = 0
                                    · rw [if_pos c70] at H
                                      have c70b0 : (t120143 == 0) = true := beq_iff_eq.mpr c70
                                      have c70b1 : (t120143 != 0) = false := bne_eq_false_iff_eq.mpr c70
                                      clear c70
                                      by_cases c71 : t120152 = 34
                                      · rw [if_pos c71] at H
                                        have c71b0 : (t120152 == 34) = true := beq_iff_eq.mpr c71
                                        have c71b1 : (t120152 != 34) = false := bne_eq_false_iff_eq.mpr c71
                                        clear c71
                                        obtain rfl := Option.some.inj H
                                        go_wp2_with (first | ((with_reducible refine gate_callee (f := 14) rfl ?_); refine goesL_ (some 158) rfl rfl Tryd.func14 (by kernel_rfl) rfl #[.int .i64 a3, .int .i64 0, .int .i64 ((x17_58.size : Int) - 1)] rfl (by (try simp only [List.map_toArray, List.map_cons, List.map_nil]); first | done | rfl | (simp only [List.length_drop, List.length_take]; rfl)) ?_; (with_reducible refine (larderlaw03_within.calls a3 0 ((x17_58.size : Int) - 1) t120135 _ A64b.out).mono ?_); rintro e w' ⟨rfl, ⟨nd, rfl⟩⟩; refine ⟨_, rfl, ?_⟩) | ((with_reducible refine gate_callee (f := 33) rfl ?_); refine goesL_ (some 163) rfl rfl Tryd.func33 (by kernel_rfl) rfl #[.string (x17_58.extract 0 (t120135 : Int).toNat)] rfl (by (try simp only [List.map_toArray, List.map_cons, List.map_nil]); first | done | rfl | (simp only [List.length_drop, List.length_take]; rfl)) ?_; (with_reducible refine (cal_ParseSpan.calls (x17_58.extract 0 (t120135 : Int).toNat) t120136 t120137 t120138 t120139 t120140 t120141 t120142 t120143 t120144 _ A67.out).mono ?_); rintro e w72 ⟨rfl, hb⟩; refine ⟨_, rfl, ?_⟩; have n0_ := Aside0.mk (blk_below (g := gb120101) (o := .cells #[.int .i64 a2_0, .int .i64 a2_1, .int .i64 a2_2, .int .i64 a2_3, .int .i64 a2_4, .int .i64 a2_5, .int .i64 a2_6] 30 (0, 0)) (by (with_reducible repeat (first | refine blk_drewN ?_ _ | refine blk_drew ?_ | refine blk_alloc ?_ _)); exact BK120101.out) hb); have n1_ := Aside0.mk (below_step (by repeat (first | (with_reducible first | exact HB.out | apply below_alloc | apply pw_below_drewN | apply below_drew1 | refine below_set ?_ GE120101.out) | exact HB.out)) hb); clear BK120101; clear HB; have BK120101 := n0_; have HB := n1_; clear n0_ n1_; (try clear hb); (try clear hb2); (try clear hk); (try clear hi)) | ((with_reducible refine gate_callee (f := 33) rfl ?_); refine goesL_ (some 170) rfl rfl Tryd.func33 (by kernel_rfl) rfl #[.string (x17_58 ++ (⟨#[33]⟩ : ByteArray))] rfl (by (try simp only [List.map_toArray, List.map_cons, List.map_nil]); first | done | rfl | (simp only [List.length_drop, List.length_take]; rfl)) ?_; (with_reducible refine (cal_ParseSpan.calls (x17_58 ++ (⟨#[33]⟩ : ByteArray)) t120145 t120146 t120147 t120148 t120149 t120150 t120151 t120152 t120153 _ A69.out).mono ?_); rintro e w73 ⟨rfl, hb⟩; refine ⟨_, rfl, ?_⟩; have n0_ := Aside0.mk (blk_below (g := gb120101) (o := .cells #[.int .i64 a2_0, .int .i64 a2_1, .int .i64 a2_2, .int .i64 a2_3, .int .i64 a2_4, .int .i64 a2_5, .int .i64 a2_6] 30 (0, 0)) (by (with_reducible repeat (first | refine blk_drewN ?_ _ | refine blk_drew ?_ | refine blk_alloc ?_ _)); exact BK120101.out) hb); have n1_ := Aside0.mk (below_step (by repeat (first | (with_reducible first | exact HB.out | apply below_alloc | apply pw_below_drewN | apply below_drew1 | refine below_set ?_ GE120101.out) | exact HB.out)) hb); clear BK120101; clear HB; have BK120101 := n0_; have HB := n1_; clear n0_ n1_; (try clear hb); (try clear hb2); (try clear hk); (try clear hi)))
                                        go_ret
                                        exact ⟨by first | rfl | (simp [errW_none, errW_some] <;> rfl) | (simp [*, errW_none, errW_some] <;> rfl), by repeat (first | (with_reducible first | exact HB.out | apply below_alloc | apply pw_below_drewN | apply below_drew1 | refine below_set ?_ GE120101.out) | exact HB.out)⟩
                                      · rw [if_neg c71] at H
                                        have c71b0 : (t120152 == 34) = false := beq_eq_false_iff_ne.mpr c71
                                        have c71b1 : (t120152 != 34) = true := bne_iff_ne.mpr c71
                                        obtain rfl := Option.some.inj H
                                        go_wp2_with (first | ((with_reducible refine gate_callee (f := 14) rfl ?_); refine goesL_ (some 158) rfl rfl Tryd.func14 (by kernel_rfl) rfl #[.int .i64 a3, .int .i64 0, .int .i64 ((x17_58.size : Int) - 1)] rfl (by (try simp only [List.map_toArray, List.map_cons, List.map_nil]); first | done | rfl | (simp only [List.length_drop, List.length_take]; rfl)) ?_; (with_reducible refine (larderlaw03_within.calls a3 0 ((x17_58.size : Int) - 1) t120135 _ A64b.out).mono ?_); rintro e w' ⟨rfl, ⟨nd, rfl⟩⟩; refine ⟨_, rfl, ?_⟩) | ((with_reducible refine gate_callee (f := 33) rfl ?_); refine goesL_ (some 163) rfl rfl Tryd.func33 (by kernel_rfl) rfl #[.string (x17_58.extract 0 (t120135 : Int).toNat)] rfl (by (try simp only [List.map_toArray, List.map_cons, List.map_nil]); first | done | rfl | (simp only [List.length_drop, List.length_take]; rfl)) ?_; (with_reducible refine (cal_ParseSpan.calls (x17_58.extract 0 (t120135 : Int).toNat) t120136 t120137 t120138 t120139 t120140 t120141 t120142 t120143 t120144 _ A67.out).mono ?_); rintro e w74 ⟨rfl, hb⟩; refine ⟨_, rfl, ?_⟩; have n0_ := Aside0.mk (blk_below (g := gb120101) (o := .cells #[.int .i64 a2_0, .int .i64 a2_1, .int .i64 a2_2, .int .i64 a2_3, .int .i64 a2_4, .int .i64 a2_5, .int .i64 a2_6] 30 (0, 0)) (by (with_reducible repeat (first | refine blk_drewN ?_ _ | refine blk_drew ?_ | refine blk_alloc ?_ _)); exact BK120101.out) hb); have n1_ := Aside0.mk (below_step (by repeat (first | (with_reducible first | exact HB.out | apply below_alloc | apply pw_below_drewN | apply below_drew1 | refine below_set ?_ GE120101.out) | exact HB.out)) hb); clear BK120101; clear HB; have BK120101 := n0_; have HB := n1_; clear n0_ n1_; (try clear hb); (try clear hb2); (try clear hk); (try clear hi)) | ((with_reducible refine gate_callee (f := 33) rfl ?_); refine goesL_ (some 170) rfl rfl Tryd.func33 (by kernel_rfl) rfl #[.string (x17_58 ++ (⟨#[33]⟩ : ByteArray))] rfl (by (try simp only [List.map_toArray, List.map_cons, List.map_nil]); first | done | rfl | (simp only [List.length_drop, List.length_take]; rfl)) ?_; (with_reducible refine (cal_ParseSpan.calls (x17_58 ++ (⟨#[33]⟩ : ByteArray)) t120145 t120146 t120147 t120148 t120149 t120150 t120151 t120152 t120153 _ A69.out).mono ?_); rintro e w75 ⟨rfl, hb⟩; refine ⟨_, rfl, ?_⟩; have n0_ := Aside0.mk (blk_below (g := gb120101) (o := .cells #[.int .i64 a2_0, .int .i64 a2_1, .int .i64 a2_2, .int .i64 a2_3, .int .i64 a2_4, .int .i64 a2_5, .int .i64 a2_6] 30 (0, 0)) (by (with_reducible repeat (first | refine blk_drewN ?_ _ | refine blk_drew ?_ | refine blk_alloc ?_ _)); exact BK120101.out) hb); have n1_ := Aside0.mk (below_step (by repeat (first | (with_reducible first | exact HB.out | apply below_alloc | apply pw_below_drewN | apply below_drew1 | refine below_set ?_ GE120101.out) | exact HB.out)) hb); clear BK120101; clear HB; have BK120101 := n0_; have HB := n1_; clear n0_ n1_; (try clear hb); (try clear hb2); (try clear hk); (try clear hi)))
                                        go_ret
                                        exact ⟨by first | rfl | (simp [errW_none, errW_some] <;> rfl) | (simp [*, errW_none, errW_some] <;> rfl), by repeat (first | (with_reducible first | exact HB.out | apply below_alloc | apply pw_below_drewN | apply below_drew1 | refine below_set ?_ GE120101.out) | exact HB.out)⟩
                                    · rw [if_neg c70] at H
                                      have c70b0 : (t120143 == 0) = false := beq_eq_false_iff_ne.mpr c70
                                      have c70b1 : (t120143 != 0) = true := bne_iff_ne.mpr c70
                                      by_cases c76 : t120143 = 34
                                      · rw [if_pos c76] at H
                                        have c76b0 : (t120143 == 34) = true := beq_iff_eq.mpr c76
                                        have c76b1 : (t120143 != 34) = false := bne_eq_false_iff_eq.mpr c76
                                        clear c76
                                        by_cases c77 : t120144 = t120135
                                        · rw [if_pos c77] at H
                                          have c77b0 : (t120144 == t120135) = true := beq_iff_eq.mpr c77
                                          have c77b1 : (t120144 != t120135) = false := bne_eq_false_iff_eq.mpr c77
                                          clear c77
                                          by_cases c78 : t120152 = 34
                                          · rw [if_pos c78] at H
                                            have c78b0 : (t120152 == 34) = true := beq_iff_eq.mpr c78
                                            have c78b1 : (t120152 != 34) = false := bne_eq_false_iff_eq.mpr c78
                                            clear c78
                                            obtain rfl := Option.some.inj H
                                            go_wp2_with (first | ((with_reducible refine gate_callee (f := 14) rfl ?_); refine goesL_ (some 158) rfl rfl Tryd.func14 (by kernel_rfl) rfl #[.int .i64 a3, .int .i64 0, .int .i64 ((x17_58.size : Int) - 1)] rfl (by (try simp only [List.map_toArray, List.map_cons, List.map_nil]); first | done | rfl | (simp only [List.length_drop, List.length_take]; rfl)) ?_; (with_reducible refine (larderlaw03_within.calls a3 0 ((x17_58.size : Int) - 1) t120135 _ A64b.out).mono ?_); rintro e w' ⟨rfl, ⟨nd, rfl⟩⟩; refine ⟨_, rfl, ?_⟩) | ((with_reducible refine gate_callee (f := 33) rfl ?_); refine goesL_ (some 163) rfl rfl Tryd.func33 (by kernel_rfl) rfl #[.string (x17_58.extract 0 (t120135 : Int).toNat)] rfl (by (try simp only [List.map_toArray, List.map_cons, List.map_nil]); first | done | rfl | (simp only [List.length_drop, List.length_take]; rfl)) ?_; (with_reducible refine (cal_ParseSpan.calls (x17_58.extract 0 (t120135 : Int).toNat) t120136 t120137 t120138 t120139 t120140 t120141 t120142 t120143 t120144 _ A67.out).mono ?_); rintro e w79 ⟨rfl, hb⟩; refine ⟨_, rfl, ?_⟩; have n0_ := Aside0.mk (blk_below (g := gb120101) (o := .cells #[.int .i64 a2_0, .int .i64 a2_1, .int .i64 a2_2, .int .i64 a2_3, .int .i64 a2_4, .int .i64 a2_5, .int .i64 a2_6] 30 (0, 0)) (by (with_reducible repeat (first | refine blk_drewN ?_ _ | refine blk_drew ?_ | refine blk_alloc ?_ _)); exact BK120101.out) hb); have n1_ := Aside0.mk (below_step (by repeat (first | (with_reducible first | exact HB.out | apply below_alloc | apply pw_below_drewN | apply below_drew1 | refine below_set ?_ GE120101.out) | exact HB.out)) hb); clear BK120101; clear HB; have BK120101 := n0_; have HB := n1_; clear n0_ n1_; (try clear hb); (try clear hb2); (try clear hk); (try clear hi)) | ((with_reducible refine gate_callee (f := 33) rfl ?_); refine goesL_ (some 170) rfl rfl Tryd.func33 (by kernel_rfl) rfl #[.string (x17_58 ++ (⟨#[33]⟩ : ByteArray))] rfl (by (try simp only [List.map_toArray, List.map_cons, List.map_nil]); first | done | rfl | (simp only [List.length_drop, List.length_take]; rfl)) ?_; (with_reducible refine (cal_ParseSpan.calls (x17_58 ++ (⟨#[33]⟩ : ByteArray)) t120145 t120146 t120147 t120148 t120149 t120150 t120151 t120152 t120153 _ A69.out).mono ?_); rintro e w80 ⟨rfl, hb⟩; refine ⟨_, rfl, ?_⟩; have n0_ := Aside0.mk (blk_below (g := gb120101) (o := .cells #[.int .i64 a2_0, .int .i64 a2_1, .int .i64 a2_2, .int .i64 a2_3, .int .i64 a2_4, .int .i64 a2_5, .int .i64 a2_6] 30 (0, 0)) (by (with_reducible repeat (first | refine blk_drewN ?_ _ | refine blk_drew ?_ | refine blk_alloc ?_ _)); exact BK120101.out) hb); have n1_ := Aside0.mk (below_step (by repeat (first | (with_reducible first | exact HB.out | apply below_alloc | apply pw_below_drewN | apply below_drew1 | refine below_set ?_ GE120101.out) | exact HB.out)) hb); clear BK120101; clear HB; have BK120101 := n0_; have HB := n1_; clear n0_ n1_; (try clear hb); (try clear hb2); (try clear hk); (try clear hi)))
                                            go_ret
                                            exact ⟨by first | rfl | (simp [errW_none, errW_some] <;> rfl) | (simp [*, errW_none, errW_some] <;> rfl), by repeat (first | (with_reducible first | exact HB.out | apply below_alloc | apply pw_below_drewN | apply below_drew1 | refine below_set ?_ GE120101.out) | exact HB.out)⟩
                                          · rw [if_neg c78] at H
                                            have c78b0 : (t120152 == 34) = false := beq_eq_false_iff_ne.mpr c78
                                            have c78b1 : (t120152 != 34) = true := bne_iff_ne.mpr c78
                                            obtain rfl := Option.some.inj H
                                            go_wp2_with (first | ((with_reducible refine gate_callee (f := 14) rfl ?_); refine goesL_ (some 158) rfl rfl Tryd.func14 (by kernel_rfl) rfl #[.int .i64 a3, .int .i64 0, .int .i64 ((x17_58.size : Int) - 1)] rfl (by (try simp only [List.map_toArray, List.map_cons, List.map_nil]); first | done | rfl | (simp only [List.length_drop, List.length_take]; rfl)) ?_; (with_reducible refine (larderlaw03_within.calls a3 0 ((x17_58.size : Int) - 1) t120135 _ A64b.out).mono ?_); rintro e w' ⟨rfl, ⟨nd, rfl⟩⟩; refine ⟨_, rfl, ?_⟩) | ((with_reducible refine gate_callee (f := 33) rfl ?_); refine goesL_ (some 163) rfl rfl Tryd.func33 (by kernel_rfl) rfl #[.string (x17_58.extract 0 (t120135 : Int).toNat)] rfl (by (try simp only [List.map_toArray, List.map_cons, List.map_nil]); first | done | rfl | (simp only [List.length_drop, List.length_take]; rfl)) ?_; (with_reducible refine (cal_ParseSpan.calls (x17_58.extract 0 (t120135 : Int).toNat) t120136 t120137 t120138 t120139 t120140 t120141 t120142 t120143 t120144 _ A67.out).mono ?_); rintro e w81 ⟨rfl, hb⟩; refine ⟨_, rfl, ?_⟩; have n0_ := Aside0.mk (blk_below (g := gb120101) (o := .cells #[.int .i64 a2_0, .int .i64 a2_1, .int .i64 a2_2, .int .i64 a2_3, .int .i64 a2_4, .int .i64 a2_5, .int .i64 a2_6] 30 (0, 0)) (by (with_reducible repeat (first | refine blk_drewN ?_ _ | refine blk_drew ?_ | refine blk_alloc ?_ _)); exact BK120101.out) hb); have n1_ := Aside0.mk (below_step (by repeat (first | (with_reducible first | exact HB.out | apply below_alloc | apply pw_below_drewN | apply below_drew1 | refine below_set ?_ GE120101.out) | exact HB.out)) hb); clear BK120101; clear HB; have BK120101 := n0_; have HB := n1_; clear n0_ n1_; (try clear hb); (try clear hb2); (try clear hk); (try clear hi)) | ((with_reducible refine gate_callee (f := 33) rfl ?_); refine goesL_ (some 170) rfl rfl Tryd.func33 (by kernel_rfl) rfl #[.string (x17_58 ++ (⟨#[33]⟩ : ByteArray))] rfl (by (try simp only [List.map_toArray, List.map_cons, List.map_nil]); first | done | rfl | (simp only [List.length_drop, List.length_take]; rfl)) ?_; (with_reducible refine (cal_ParseSpan.calls (x17_58 ++ (⟨#[33]⟩ : ByteArray)) t120145 t120146 t120147 t120148 t120149 t120150 t120151 t120152 t120153 _ A69.out).mono ?_); rintro e w82 ⟨rfl, hb⟩; refine ⟨_, rfl, ?_⟩; have n0_ := Aside0.mk (blk_below (g := gb120101) (o := .cells #[.int .i64 a2_0, .int .i64 a2_1, .int .i64 a2_2, .int .i64 a2_3, .int .i64 a2_4, .int .i64 a2_5, .int .i64 a2_6] 30 (0, 0)) (by (with_reducible repeat (first | refine blk_drewN ?_ _ | refine blk_drew ?_ | refine blk_alloc ?_ _)); exact BK120101.out) hb); have n1_ := Aside0.mk (below_step (by repeat (first | (with_reducible first | exact HB.out | apply below_alloc | apply pw_below_drewN | apply below_drew1 | refine below_set ?_ GE120101.out) | exact HB.out)) hb); clear BK120101; clear HB; have BK120101 := n0_; have HB := n1_; clear n0_ n1_; (try clear hb); (try clear hb2); (try clear hk); (try clear hi)))
                                            go_ret
                                            exact ⟨by first | rfl | (simp [errW_none, errW_some] <;> rfl) | (simp [*, errW_none, errW_some] <;> rfl), by repeat (first | (with_reducible first | exact HB.out | apply below_alloc | apply pw_below_drewN | apply below_drew1 | refine below_set ?_ GE120101.out) | exact HB.out)⟩
                                        · rw [if_neg c77] at H
                                          have c77b0 : (t120144 == t120135) = false := beq_eq_false_iff_ne.mpr c77
                                          have c77b1 : (t120144 != t120135) = true := bne_iff_ne.mpr c77
                                          obtain rfl := Option.some.inj H
                                          go_wp2_with (first | ((with_reducible refine gate_callee (f := 14) rfl ?_); refine goesL_ (some 158) rfl rfl Tryd.func14 (by kernel_rfl) rfl #[.int .i64 a3, .int .i64 0, .int .i64 ((x17_58.size : Int) - 1)] rfl (by (try simp only [List.map_toArray, List.map_cons, List.map_nil]); first | done | rfl | (simp only [List.length_drop, List.length_take]; rfl)) ?_; (with_reducible refine (larderlaw03_within.calls a3 0 ((x17_58.size : Int) - 1) t120135 _ A64b.out).mono ?_); rintro e w' ⟨rfl, ⟨nd, rfl⟩⟩; refine ⟨_, rfl, ?_⟩) | ((with_reducible refine gate_callee (f := 33) rfl ?_); refine goesL_ (some 163) rfl rfl Tryd.func33 (by kernel_rfl) rfl #[.string (x17_58.extract 0 (t120135 : Int).toNat)] rfl (by (try simp only [List.map_toArray, List.map_cons, List.map_nil]); first | done | rfl | (simp only [List.length_drop, List.length_take]; rfl)) ?_; (with_reducible refine (cal_ParseSpan.calls (x17_58.extract 0 (t120135 : Int).toNat) t120136 t120137 t120138 t120139 t120140 t120141 t120142 t120143 t120144 _ A67.out).mono ?_); rintro e w83 ⟨rfl, hb⟩; refine ⟨_, rfl, ?_⟩; have n0_ := Aside0.mk (blk_below (g := gb120101) (o := .cells #[.int .i64 a2_0, .int .i64 a2_1, .int .i64 a2_2, .int .i64 a2_3, .int .i64 a2_4, .int .i64 a2_5, .int .i64 a2_6] 30 (0, 0)) (by (with_reducible repeat (first | refine blk_drewN ?_ _ | refine blk_drew ?_ | refine blk_alloc ?_ _)); exact BK120101.out) hb); have n1_ := Aside0.mk (below_step (by repeat (first | (with_reducible first | exact HB.out | apply below_alloc | apply pw_below_drewN | apply below_drew1 | refine below_set ?_ GE120101.out) | exact HB.out)) hb); clear BK120101; clear HB; have BK120101 := n0_; have HB := n1_; clear n0_ n1_; (try clear hb); (try clear hb2); (try clear hk); (try clear hi)) | ((with_reducible refine gate_callee (f := 33) rfl ?_); refine goesL_ (some 170) rfl rfl Tryd.func33 (by kernel_rfl) rfl #[.string (x17_58 ++ (⟨#[33]⟩ : ByteArray))] rfl (by (try simp only [List.map_toArray, List.map_cons, List.map_nil]); first | done | rfl | (simp only [List.length_drop, List.length_take]; rfl)) ?_; (with_reducible refine (cal_ParseSpan.calls (x17_58 ++ (⟨#[33]⟩ : ByteArray)) t120145 t120146 t120147 t120148 t120149 t120150 t120151 t120152 t120153 _ A69.out).mono ?_); rintro e w84 ⟨rfl, hb⟩; refine ⟨_, rfl, ?_⟩; have n0_ := Aside0.mk (blk_below (g := gb120101) (o := .cells #[.int .i64 a2_0, .int .i64 a2_1, .int .i64 a2_2, .int .i64 a2_3, .int .i64 a2_4, .int .i64 a2_5, .int .i64 a2_6] 30 (0, 0)) (by (with_reducible repeat (first | refine blk_drewN ?_ _ | refine blk_drew ?_ | refine blk_alloc ?_ _)); exact BK120101.out) hb); have n1_ := Aside0.mk (below_step (by repeat (first | (with_reducible first | exact HB.out | apply below_alloc | apply pw_below_drewN | apply below_drew1 | refine below_set ?_ GE120101.out) | exact HB.out)) hb); clear BK120101; clear HB; have BK120101 := n0_; have HB := n1_; clear n0_ n1_; (try clear hb); (try clear hb2); (try clear hk); (try clear hi)))
                                          go_ret
                                          exact ⟨by first | rfl | (simp [errW_none, errW_some] <;> rfl) | (simp [*, errW_none, errW_some] <;> rfl), by repeat (first | (with_reducible first | exact HB.out | apply below_alloc | apply pw_below_drewN | apply below_drew1 | refine below_set ?_ GE120101.out) | exact HB.out)⟩
                                      · rw [if_neg c76] at H
                                        have c76b0 : (t120143 == 34) = false := beq_eq_false_iff_ne.mpr c76
                                        have c76b1 : (t120143 != 34) = true := bne_iff_ne.mpr c76
                                        obtain rfl := Option.some.inj H
                                        go_wp2_with (first | ((with_reducible refine gate_callee (f := 14) rfl ?_); refine goesL_ (some 158) rfl rfl Tryd.func14 (by kernel_rfl) rfl #[.int .i64 a3, .int .i64 0, .int .i64 ((x17_58.size : Int) - 1)] rfl (by (try simp only [List.map_toArray, List.map_cons, List.map_nil]); first | done | rfl | (simp only [List.length_drop, List.length_take]; rfl)) ?_; (with_reducible refine (larderlaw03_within.calls a3 0 ((x17_58.size : Int) - 1) t120135 _ A64b.out).mono ?_); rintro e w' ⟨rfl, ⟨nd, rfl⟩⟩; refine ⟨_, rfl, ?_⟩) | ((with_reducible refine gate_callee (f := 33) rfl ?_); refine goesL_ (some 163) rfl rfl Tryd.func33 (by kernel_rfl) rfl #[.string (x17_58.extract 0 (t120135 : Int).toNat)] rfl (by (try simp only [List.map_toArray, List.map_cons, List.map_nil]); first | done | rfl | (simp only [List.length_drop, List.length_take]; rfl)) ?_; (with_reducible refine (cal_ParseSpan.calls (x17_58.extract 0 (t120135 : Int).toNat) t120136 t120137 t120138 t120139 t120140 t120141 t120142 t120143 t120144 _ A67.out).mono ?_); rintro e w85 ⟨rfl, hb⟩; refine ⟨_, rfl, ?_⟩; have n0_ := Aside0.mk (blk_below (g := gb120101) (o := .cells #[.int .i64 a2_0, .int .i64 a2_1, .int .i64 a2_2, .int .i64 a2_3, .int .i64 a2_4, .int .i64 a2_5, .int .i64 a2_6] 30 (0, 0)) (by (with_reducible repeat (first | refine blk_drewN ?_ _ | refine blk_drew ?_ | refine blk_alloc ?_ _)); exact BK120101.out) hb); have n1_ := Aside0.mk (below_step (by repeat (first | (with_reducible first | exact HB.out | apply below_alloc | apply pw_below_drewN | apply below_drew1 | refine below_set ?_ GE120101.out) | exact HB.out)) hb); clear BK120101; clear HB; have BK120101 := n0_; have HB := n1_; clear n0_ n1_; (try clear hb); (try clear hb2); (try clear hk); (try clear hi)) | ((with_reducible refine gate_callee (f := 33) rfl ?_); refine goesL_ (some 170) rfl rfl Tryd.func33 (by kernel_rfl) rfl #[.string (x17_58 ++ (⟨#[33]⟩ : ByteArray))] rfl (by (try simp only [List.map_toArray, List.map_cons, List.map_nil]); first | done | rfl | (simp only [List.length_drop, List.length_take]; rfl)) ?_; (with_reducible refine (cal_ParseSpan.calls (x17_58 ++ (⟨#[33]⟩ : ByteArray)) t120145 t120146 t120147 t120148 t120149 t120150 t120151 t120152 t120153 _ A69.out).mono ?_); rintro e w86 ⟨rfl, hb⟩; refine ⟨_, rfl, ?_⟩; have n0_ := Aside0.mk (blk_below (g := gb120101) (o := .cells #[.int .i64 a2_0, .int .i64 a2_1, .int .i64 a2_2, .int .i64 a2_3, .int .i64 a2_4, .int .i64 a2_5, .int .i64 a2_6] 30 (0, 0)) (by (with_reducible repeat (first | refine blk_drewN ?_ _ | refine blk_drew ?_ | refine blk_alloc ?_ _)); exact BK120101.out) hb); have n1_ := Aside0.mk (below_step (by repeat (first | (with_reducible first | exact HB.out | apply below_alloc | apply pw_below_drewN | apply below_drew1 | refine below_set ?_ GE120101.out) | exact HB.out)) hb); clear BK120101; clear HB; have BK120101 := n0_; have HB := n1_; clear n0_ n1_; (try clear hb); (try clear hb2); (try clear hk); (try clear hi)))
                                        go_ret
                                        exact ⟨by first | rfl | (simp [errW_none, errW_some] <;> rfl) | (simp [*, errW_none, errW_some] <;> rfl), by repeat (first | (with_reducible first | exact HB.out | apply below_alloc | apply pw_below_drewN | apply below_drew1 | refine below_set ?_ GE120101.out) | exact HB.out)⟩
                                  · rw [if_neg c68] at H
                                    exact absurd H (by simp)
                                · rw [if_neg c66] at H
                                  exact absurd H (by simp)
                              · rw [if_neg c65] at H
                                exact absurd H (by simp)
                · rw [if_neg c47] at H
                  exact absurd H (by simp)
              · rw [if_neg c45] at H
                exact absurd H (by simp)
            · rw [if_neg c44] at H
              exact absurd H (by simp)
          · rw [if_neg c42] at H
            have c42b0 : ((t120124.size : Int) == 20) = false := beq_eq_false_iff_ne.mpr c42
            have c42b1 : ((t120124.size : Int) != 20) = true := bne_iff_ne.mpr c42
            obtain rfl := Option.some.inj H
            go_wp2_with (first | ((with_reducible refine gate_callee (f := 14) rfl ?_); refine goesL_ (some 96) rfl rfl Tryd.func14 (by kernel_rfl) rfl #[.int .i64 a1, .int .i64 0, .int .i64 315569519999] rfl (by (try simp only [List.map_toArray, List.map_cons, List.map_nil]); first | done | rfl | (simp only [List.length_drop, List.length_take]; rfl)) ?_; (with_reducible refine (larderlaw03_within.calls a1 0 315569519999 t120123 _ A40.out).mono ?_); rintro e w' ⟨rfl, ⟨nd, rfl⟩⟩; refine ⟨_, rfl, ?_⟩) | ((with_reducible refine gate_callee (f := 19) rfl ?_); refine goesL_ (some 97) rfl rfl Tryd.func19 (by kernel_rfl) rfl #[.int .i64 t120123, .int .i64 0] rfl (by (try simp only [List.map_toArray, List.map_cons, List.map_nil]); first | done | rfl | (simp only [List.length_drop, List.length_take]; rfl)) ?_; (with_reducible refine (cal_PrintInstant.calls k1 t120123 0 t120124 t120125 _ ?side1 A41.out).mono ?_); (case side1 => refine GlobOk.below HG.out ?_; repeat (first | (with_reducible first | exact HB.out | apply below_alloc | apply pw_below_drewN | apply below_drew1 | refine below_set ?_ GE120101.out) | exact HB.out)); rintro e w87 ⟨rfl, hb⟩; refine ⟨_, rfl, ?_⟩; have n0_ := Aside0.mk (Kd.R_below (by (with_reducible repeat (first | apply Kd.R_alloc | apply Kd.R_drewN | apply Kd.R_drew)); exact HO_9.out) hb); have n1_ := Aside0.mk (blk_below (g := gb120101) (o := .cells #[.int .i64 a2_0, .int .i64 a2_1, .int .i64 a2_2, .int .i64 a2_3, .int .i64 a2_4, .int .i64 a2_5, .int .i64 a2_6] 30 (0, 0)) (by (with_reducible repeat (first | refine blk_drewN ?_ _ | refine blk_drew ?_ | refine blk_alloc ?_ _)); exact BK120101.out) hb); have n2_ := Aside0.mk (below_step (by repeat (first | (with_reducible first | exact HB.out | apply below_alloc | apply pw_below_drewN | apply below_drew1 | refine below_set ?_ GE120101.out) | exact HB.out)) hb); clear HO_9; clear BK120101; clear HB; have HO_9 := n0_; have BK120101 := n1_; have HB := n2_; clear n0_ n1_ n2_; (try clear hb); (try clear hb2); (try clear hk); (try clear hi)))
            go_ret
            exact ⟨by first | rfl | (simp [errW_none, errW_some] <;> rfl) | (simp [*, errW_none, errW_some] <;> rfl), by repeat (first | (with_reducible first | exact HB.out | apply below_alloc | apply pw_below_drewN | apply below_drew1 | refine below_set ?_ GE120101.out) | exact HB.out)⟩
  · replace c8 := Bool.eq_false_iff.mpr c8
    subst c8
    have H1 : (some false) = some r := by rw [if_neg (show ¬ (false = true) by decide)] at H; exact H
    clear H
    have H := H1
    clear H1
    obtain rfl := Option.some.inj H
    go_enter Tryd.func12, Tryd.ntmps12
    go_wp2_with (first | ((with_reducible refine gate_dst (N := 6) rfl ?_); refine box_event ?hg (N := 6) ?hd (cs := #[.int .i64 a2_0, .int .i64 a2_1, .int .i64 a2_2, .int .i64 a2_3, .int .i64 a2_4, .int .i64 a2_5, .int .i64 a2_6]) (t := 30) ?hr ?_; (case hd => rfl); (case hg => rfl); (case hr => first | (go_simp; done) | (go_simp; rfl)); intro gb120101 hg w88 hbox hb; have n0_ := Aside0.mk (below_step (by repeat (first | (with_reducible first | exact HB.out | apply below_alloc | apply pw_below_drewN | apply below_drew1) | exact HB.out)) hb); have n1_ := Aside0.mk (hbox); have n2_ := Aside0.mk ((by rw [hg]; exact (below_size (by repeat (first | (with_reducible first | exact HB.out | apply below_alloc | apply pw_below_drewN | apply below_drew1) | exact HB.out))) : w.heap.size ≤ gb120101)); have n3_ := Aside0.mk ((by rw [hg]; exact (below_size (by repeat (first | (with_reducible first | exact HB.out | apply below_alloc | apply pw_below_drewN | apply below_drew1) | exact HB.out))) : w.heap.size ≤ gb120101)); clear HB; have HB := n0_; have BK120101 := n1_; have GW120101 := n2_; have GE120101 := n3_; clear n0_ n1_ n2_ n3_; clear hb hbox hg) | ((with_reducible refine gate_callee (f := 14) rfl ?_); refine goesL_ (some 28) rfl rfl Tryd.func14 (by kernel_rfl) rfl #[.int .i64 a0, .int .i64 2, .int .i64 3652424] rfl (by (try simp only [List.map_toArray, List.map_cons, List.map_nil]); first | done | rfl | (simp only [List.length_drop, List.length_take]; rfl)) ?_; (with_reducible refine (larderlaw03_within.calls a0 2 3652424 t120102 _ A5.out).mono ?_); rintro e w' ⟨rfl, ⟨nd, rfl⟩⟩; refine ⟨_, rfl, ?_⟩) | ((with_reducible refine gate_callee (f := 13) rfl ?_); refine goesL_ (some 29) rfl rfl Tryd.func13 (by kernel_rfl) rfl #[.int .i64 t120102] rfl (by (try simp only [List.map_toArray, List.map_cons, List.map_nil]); first | done | rfl | (simp only [List.length_drop, List.length_take]; rfl)) ?_; (with_reducible refine (larderlaw03_at.calls k t120102 t120103 t120104 t120105 _ ?side1 A6.out).mono ?_); (case side1 => refine GlobOk.below HG.out ?_; repeat (first | (with_reducible first | exact HB.out | apply below_alloc | apply pw_below_drewN | apply below_drew1 | refine below_set ?_ GE120101.out) | exact HB.out)); rintro e w89 ⟨rfl, hb⟩; refine ⟨_, rfl, ?_⟩; have n0_ := Aside0.mk (blk_below (g := gb120101) (o := .cells #[.int .i64 a2_0, .int .i64 a2_1, .int .i64 a2_2, .int .i64 a2_3, .int .i64 a2_4, .int .i64 a2_5, .int .i64 a2_6] 30 (0, 0)) (by (with_reducible repeat (first | refine blk_drewN ?_ _ | refine blk_drew ?_ | refine blk_alloc ?_ _)); exact BK120101.out) hb); have n1_ := Aside0.mk (below_step (by repeat (first | (with_reducible first | exact HB.out | apply below_alloc | apply pw_below_drewN | apply below_drew1 | refine below_set ?_ GE120101.out) | exact HB.out)) hb); clear BK120101; clear HB; have BK120101 := n0_; have HB := n1_; clear n0_ n1_; (try clear hb); (try clear hb2); (try clear hk); (try clear hi)) | ((with_reducible refine gate_callee (f := 29) rfl ?_); refine goesL_ (some 30) rfl rfl Tryd.func29 (by kernel_rfl) rfl #[.agg #[.int .i64 t120103, .int .i64 t120104, .int .i64 t120105]] rfl (by (try simp only [List.map_toArray, List.map_cons, List.map_nil]); first | done | rfl | (simp only [List.length_drop, List.length_take]; rfl)) ?_; (with_reducible refine (larderlaw03_forms.calls k t120103 t120104 t120105 t120106 false _ ?side1 A7.out).mono ?_); (case side1 => refine GlobOk.below HG.out ?_; repeat (first | (with_reducible first | exact HB.out | apply below_alloc | apply pw_below_drewN | apply below_drew1 | refine below_set ?_ GE120101.out) | exact HB.out)); rintro e w90 ⟨v120107, rfl, ho0, hb⟩; refine ⟨_, rfl, ?_⟩; have n0_ := Aside0.mk (Kd.R_lower ho0 (below_size (by repeat (first | (with_reducible first | exact HB.out | apply below_alloc | apply pw_below_drewN | apply below_drew1 | refine below_set ?_ GE120101.out) | exact HB.out)))); have n1_ := Aside0.mk (blk_below (g := gb120101) (o := .cells #[.int .i64 a2_0, .int .i64 a2_1, .int .i64 a2_2, .int .i64 a2_3, .int .i64 a2_4, .int .i64 a2_5, .int .i64 a2_6] 30 (0, 0)) (by (with_reducible repeat (first | refine blk_drewN ?_ _ | refine blk_drew ?_ | refine blk_alloc ?_ _)); exact BK120101.out) hb); have n2_ := Aside0.mk (below_step (by repeat (first | (with_reducible first | exact HB.out | apply below_alloc | apply pw_below_drewN | apply below_drew1 | refine below_set ?_ GE120101.out) | exact HB.out)) hb); clear BK120101; clear HB; have HO120108 := n0_; have BK120101 := n1_; have HB := n2_; clear n0_ n1_ n2_; (try clear hb); (try clear hb2); (try clear hk); (try clear hi); (try clear ho0)))
    go_ret
    exact ⟨by first | rfl | (simp [errW_none, errW_some] <;> rfl) | (simp [*, errW_none, errW_some] <;> rfl), by repeat (first | (with_reducible first | exact HB.out | apply below_alloc | apply pw_below_drewN | apply below_drew1 | refine below_set ?_ GE120101.out) | exact HB.out)⟩

end Go.Proofs.YtiklakkkgmilnaaDoor.GC
