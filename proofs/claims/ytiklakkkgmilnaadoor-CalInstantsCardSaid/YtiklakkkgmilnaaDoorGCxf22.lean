-- written by a program (gp.py over the kit's print) for this claim
import Derived.Test.YtiklakkkgmilnaaDoorGCx0
import Derived.Test.YtiklakkkgmilnaaDoorGCr
import Derived.Test.YtiklakkkgmilnaaDoorGCxf50
namespace Go.Proofs.YtiklakkkgmilnaaDoor.GC
open Go.RowKit Go.Proofs.YtiklakkkgmilnaaDoorW.PrintWords Go.Proofs.YtiklakkkgmilnaaDoorW.PrintLast Go.Proofs.YtiklakkkgmilnaaDoor.Ext Go.Proofs.YtiklakkkgmilnaaDoor.PCal
attribute [local go_sem] max2_int min2_int max_two min_two   -- for this text alone
set_option linter.unusedVariables false
set_option linter.unusedSimpArgs false

/-! ### larderref03_ParseDate: function 22 -/
mutual
def larderref03_ParseDate.j0 : Nat → ByteArray → Int → Int → Int → Bool → Int → Int → Int → Option (Int × Int × Int × Int × Int)
 | 0, _, _, _, _, _, _, _, _ => none
 | k + 1, x0, x6, x8, x38, x39, x220103000, x220103001, x220103002 => if x39 = true then ((larderref03_num.f k x0 (wrap64 (5 - x6)) 2).bind fun t220109 => (if t220109 < 1 then (larderref03_ParseDate.j1 k x0 x8 (wrap64 (5 - x6)) (wrap64 (8 - (wrap64 (2 * x6)))) t220109 true x220103000 x220103001 x220103002) else (larderref03_ParseDate.j1 k x0 x8 (wrap64 (5 - x6)) (wrap64 (8 - (wrap64 (2 * x6)))) t220109 (decide (t220109 > 12)) x220103000 x220103001 x220103002))) else (if x38 = 2 then (larderref03_ParseDate.j2 k x0 x6 x8 (x38 == 2) x220103000 x220103001 x220103002) else (larderref03_ParseDate.j2 k x0 x6 x8 (x38 == 3) x220103000 x220103001 x220103002))
def larderref03_ParseDate.j1 : Nat → ByteArray → Int → Int → Int → Int → Bool → Int → Int → Int → Option (Int × Int × Int × Int × Int)
 | 0, _, _, _, _, _, _, _, _, _ => none
 | k + 1, x0, x8, x9, x10, x11, x55, x220103000, x220103001, x220103002 => if x55 = true then (some (x220103000, x220103001, x220103002, 30, x9)) else ((larderref03_num.f k x0 x10 2).bind fun t220110 => (if t220110 < 1 then (some (x220103000, x220103001, x220103002, 30, x10)) else ((larderref03_long.f k x8 x11).bind fun t220111 => (if t220110 > t220111 then (some (x220103000, x220103001, x220103002, 30, x10)) else (some (x8, x11, t220110, 0, 0))))))
def larderref03_ParseDate.j2 : Nat → ByteArray → Int → Int → Bool → Int → Int → Int → Option (Int × Int × Int × Int × Int)
 | 0, _, _, _, _, _, _, _ => none
 | k + 1, x0, x6, x8, x76, x220103000, x220103001, x220103002 => if x76 = true then ((larderref03_num.f k x0 (wrap64 (7 - x6)) 3).bind fun t220112 => (if t220112 < 1 then (larderref03_ParseDate.j3 k x8 (wrap64 (7 - x6)) t220112 true x220103000 x220103001 x220103002) else ((larderref03_ahead.f (wrap64 (x8 + 1))).bind fun t220113 => ((larderref03_ahead.f x8).bind fun t220114 => (larderref03_ParseDate.j3 k x8 (wrap64 (7 - x6)) t220112 (decide (t220112 > (wrap64 (t220113 - t220114)))) x220103000 x220103001 x220103002))))) else (if x6 = 5 then (larderref03_ParseDate.j4 k x0 x8 (wrap64 (10 - x6)) 7 x220103000 x220103001 x220103002) else (larderref03_ParseDate.j4 k x0 x8 (wrap64 (10 - x6)) 9 x220103000 x220103001 x220103002))
def larderref03_ParseDate.j3 : Nat → Int → Int → Int → Bool → Int → Int → Int → Option (Int × Int × Int × Int × Int)
 | 0, _, _, _, _, _, _, _ => none
 | k + 1, x8, x13, x14, x95, x220103000, x220103001, x220103002 => if x95 = true then (some (x220103000, x220103001, x220103002, 30, x13)) else ((larderref03_ahead.f x8).bind fun t220115 => ((larderref03_date.f k (wrap64 ((wrap64 (t220115 + x14)) - 1))).bind fun bt220116 => (some (bt220116.1, bt220116.2.1, bt220116.2.2, 0, 0))))
def larderref03_ParseDate.j4 : Nat → ByteArray → Int → Int → Int → Int → Int → Int → Option (Int × Int × Int × Int × Int)
 | 0, _, _, _, _, _, _, _ => none
 | k + 1, x0, x8, x15, x16, x220103000, x220103001, x220103002 => (larderref03_num.f k x0 x15 2).bind fun t220119 => (if t220119 < 1 then (larderref03_ParseDate.j5 k x0 x8 x15 x16 t220119 true x220103000 x220103001 x220103002) else ((larderref03_weeks.f x8).bind fun t220120 => (larderref03_ParseDate.j5 k x0 x8 x15 x16 t220119 (decide (t220119 > t220120)) x220103000 x220103001 x220103002)))
def larderref03_ParseDate.j5 : Nat → ByteArray → Int → Int → Int → Int → Bool → Int → Int → Int → Option (Int × Int × Int × Int × Int)
 | 0, _, _, _, _, _, _, _, _, _ => none
 | k + 1, x0, x8, x15, x16, x17, x118, x220103000, x220103001, x220103002 => if x118 = true then (some (x220103000, x220103001, x220103002, 30, x15)) else ((larderref03_num.f k x0 x16 1).bind fun t220121 => (if t220121 < 1 then (some (x220103000, x220103001, x220103002, 30, x16)) else (if t220121 > 7 then (some (x220103000, x220103001, x220103002, 30, x16)) else ((larderref03_FromWeek.f k x8 x17 t220121).bind fun bt220122 => (some (bt220122.1, bt220122.2.1, bt220122.2.2.1, bt220122.2.2.2, 0))))))
end
def larderref03_ParseDate.f (k : Nat) (a0 : ByteArray) : Option (Int × Int × Int × Int × Int) := if (a0.size : Int) > 64 then (some (0, 0, 0, 1, 0)) else ((larderref03_shaped.f k a0 (([(⟨#[100, 100, 100, 100, 45, 100, 100, 45, 100, 100]⟩ : ByteArray), (⟨#[100, 100, 100, 100, 100, 100, 100, 100]⟩ : ByteArray), (⟨#[100, 100, 100, 100, 45, 100, 100, 100]⟩ : ByteArray), (⟨#[100, 100, 100, 100, 100, 100, 100]⟩ : ByteArray), (⟨#[100, 100, 100, 100, 45, 87, 100, 100, 45, 100]⟩ : ByteArray), (⟨#[100, 100, 100, 100, 87, 100, 100, 100]⟩ : ByteArray)] : List ByteArray))).bind fun bt220106 => (if bt220106.1 < 0 then (some (0, 0, 0, 31, bt220106.2)) else ((larderref03_num.f k a0 0 4).bind fun t220108 => (if bt220106.1 = 0 then (larderref03_ParseDate.j0 k a0 bt220106.1 t220108 bt220106.1 (bt220106.1 == 0) 0 0 0) else (larderref03_ParseDate.j0 k a0 bt220106.1 t220108 bt220106.1 (bt220106.1 == 1) 0 0 0)))))
theorem larderref03_ParseDate.mono_l : ∀ k, (∀ y0 y1 y2 y3 y4 y5 y6 y7, LeO (larderref03_ParseDate.j0 k y0 y1 y2 y3 y4 y5 y6 y7) (larderref03_ParseDate.j0 (k + 1) y0 y1 y2 y3 y4 y5 y6 y7)) ∧ (∀ y0 y1 y2 y3 y4 y5 y6 y7 y8, LeO (larderref03_ParseDate.j1 k y0 y1 y2 y3 y4 y5 y6 y7 y8) (larderref03_ParseDate.j1 (k + 1) y0 y1 y2 y3 y4 y5 y6 y7 y8)) ∧ (∀ y0 y1 y2 y3 y4 y5 y6, LeO (larderref03_ParseDate.j2 k y0 y1 y2 y3 y4 y5 y6) (larderref03_ParseDate.j2 (k + 1) y0 y1 y2 y3 y4 y5 y6)) ∧ (∀ y0 y1 y2 y3 y4 y5 y6, LeO (larderref03_ParseDate.j3 k y0 y1 y2 y3 y4 y5 y6) (larderref03_ParseDate.j3 (k + 1) y0 y1 y2 y3 y4 y5 y6)) ∧ (∀ y0 y1 y2 y3 y4 y5 y6, LeO (larderref03_ParseDate.j4 k y0 y1 y2 y3 y4 y5 y6) (larderref03_ParseDate.j4 (k + 1) y0 y1 y2 y3 y4 y5 y6)) ∧ (∀ y0 y1 y2 y3 y4 y5 y6 y7 y8, LeO (larderref03_ParseDate.j5 k y0 y1 y2 y3 y4 y5 y6 y7 y8) (larderref03_ParseDate.j5 (k + 1) y0 y1 y2 y3 y4 y5 y6 y7 y8))
 | 0 => ⟨fun _ _ _ _ _ _ _ _ r h => by simp [larderref03_ParseDate.j0] at h, fun _ _ _ _ _ _ _ _ _ r h => by simp [larderref03_ParseDate.j1] at h, fun _ _ _ _ _ _ _ r h => by simp [larderref03_ParseDate.j2] at h, fun _ _ _ _ _ _ _ r h => by simp [larderref03_ParseDate.j3] at h, fun _ _ _ _ _ _ _ r h => by simp [larderref03_ParseDate.j4] at h, fun _ _ _ _ _ _ _ _ _ r h => by simp [larderref03_ParseDate.j5] at h⟩
 | k + 1 => by
  obtain ⟨ih0, ih1, ih2, ih3, ih4, ih5⟩ := larderref03_ParseDate.mono_l k
  refine ⟨?_, ?_, ?_, ?_, ?_, ?_⟩
  ·intro y0 y1 y2 y3 y4 y5 y6 y7
   unfold larderref03_ParseDate.j0
   repeat' first
   | (with_reducible exact ih0 _ _ _ _ _ _ _ _)
   | (with_reducible exact ih1 _ _ _ _ _ _ _ _ _)
   | (with_reducible exact ih2 _ _ _ _ _ _ _)
   | (with_reducible exact ih3 _ _ _ _ _ _ _)
   | (with_reducible exact ih4 _ _ _ _ _ _ _)
   | (with_reducible exact ih5 _ _ _ _ _ _ _ _ _)
   | (with_reducible exact larderref03_FromWeek.mono _ _ _ _)
   | (with_reducible exact larderref03_date.mono _ _)
   | (with_reducible exact larderref03_long.mono _ _ _)
   | (with_reducible exact larderref03_num.mono _ _ _ _)
   | (with_reducible exact larderref03_shaped.mono _ _ _)
   | (with_reducible exact LeO.refl _)
   | (with_reducible exact LeO.none _)
   | (with_reducible refine LeO.ite ?_ ?_)
   | (with_reducible refine LeO.bind ?_ (fun _ => ?_))
   | exact ih0 _ _ _ _ _ _ _ _
   | exact ih1 _ _ _ _ _ _ _ _ _
   | exact ih2 _ _ _ _ _ _ _
   | exact ih3 _ _ _ _ _ _ _
   | exact ih4 _ _ _ _ _ _ _
   | exact ih5 _ _ _ _ _ _ _ _ _
   | exact larderref03_FromWeek.mono _ _ _ _
   | exact larderref03_date.mono _ _
   | exact larderref03_long.mono _ _ _
   | exact larderref03_num.mono _ _ _ _
   | exact larderref03_shaped.mono _ _ _
   | exact LeO.none _
   | refine LeO.ite ?_ ?_
   | refine LeO.bind ?_ (fun _ => ?_)
  ·intro y0 y1 y2 y3 y4 y5 y6 y7 y8
   unfold larderref03_ParseDate.j1
   repeat' first
   | (with_reducible exact ih0 _ _ _ _ _ _ _ _)
   | (with_reducible exact ih1 _ _ _ _ _ _ _ _ _)
   | (with_reducible exact ih2 _ _ _ _ _ _ _)
   | (with_reducible exact ih3 _ _ _ _ _ _ _)
   | (with_reducible exact ih4 _ _ _ _ _ _ _)
   | (with_reducible exact ih5 _ _ _ _ _ _ _ _ _)
   | (with_reducible exact larderref03_FromWeek.mono _ _ _ _)
   | (with_reducible exact larderref03_date.mono _ _)
   | (with_reducible exact larderref03_long.mono _ _ _)
   | (with_reducible exact larderref03_num.mono _ _ _ _)
   | (with_reducible exact larderref03_shaped.mono _ _ _)
   | (with_reducible exact LeO.refl _)
   | (with_reducible exact LeO.none _)
   | (with_reducible refine LeO.ite ?_ ?_)
   | (with_reducible refine LeO.bind ?_ (fun _ => ?_))
   | exact ih0 _ _ _ _ _ _ _ _
   | exact ih1 _ _ _ _ _ _ _ _ _
   | exact ih2 _ _ _ _ _ _ _
   | exact ih3 _ _ _ _ _ _ _
   | exact ih4 _ _ _ _ _ _ _
   | exact ih5 _ _ _ _ _ _ _ _ _
   | exact larderref03_FromWeek.mono _ _ _ _
   | exact larderref03_date.mono _ _
   | exact larderref03_long.mono _ _ _
   | exact larderref03_num.mono _ _ _ _
   | exact larderref03_shaped.mono _ _ _
   | exact LeO.none _
   | refine LeO.ite ?_ ?_
   | refine LeO.bind ?_ (fun _ => ?_)
  ·intro y0 y1 y2 y3 y4 y5 y6
   unfold larderref03_ParseDate.j2
   repeat' first
   | (with_reducible exact ih0 _ _ _ _ _ _ _ _)
   | (with_reducible exact ih1 _ _ _ _ _ _ _ _ _)
   | (with_reducible exact ih2 _ _ _ _ _ _ _)
   | (with_reducible exact ih3 _ _ _ _ _ _ _)
   | (with_reducible exact ih4 _ _ _ _ _ _ _)
   | (with_reducible exact ih5 _ _ _ _ _ _ _ _ _)
   | (with_reducible exact larderref03_FromWeek.mono _ _ _ _)
   | (with_reducible exact larderref03_date.mono _ _)
   | (with_reducible exact larderref03_long.mono _ _ _)
   | (with_reducible exact larderref03_num.mono _ _ _ _)
   | (with_reducible exact larderref03_shaped.mono _ _ _)
   | (with_reducible exact LeO.refl _)
   | (with_reducible exact LeO.none _)
   | (with_reducible refine LeO.ite ?_ ?_)
   | (with_reducible refine LeO.bind ?_ (fun _ => ?_))
   | exact ih0 _ _ _ _ _ _ _ _
   | exact ih1 _ _ _ _ _ _ _ _ _
   | exact ih2 _ _ _ _ _ _ _
   | exact ih3 _ _ _ _ _ _ _
   | exact ih4 _ _ _ _ _ _ _
   | exact ih5 _ _ _ _ _ _ _ _ _
   | exact larderref03_FromWeek.mono _ _ _ _
   | exact larderref03_date.mono _ _
   | exact larderref03_long.mono _ _ _
   | exact larderref03_num.mono _ _ _ _
   | exact larderref03_shaped.mono _ _ _
   | exact LeO.none _
   | refine LeO.ite ?_ ?_
   | refine LeO.bind ?_ (fun _ => ?_)
  ·intro y0 y1 y2 y3 y4 y5 y6
   unfold larderref03_ParseDate.j3
   repeat' first
   | (with_reducible exact ih0 _ _ _ _ _ _ _ _)
   | (with_reducible exact ih1 _ _ _ _ _ _ _ _ _)
   | (with_reducible exact ih2 _ _ _ _ _ _ _)
   | (with_reducible exact ih3 _ _ _ _ _ _ _)
   | (with_reducible exact ih4 _ _ _ _ _ _ _)
   | (with_reducible exact ih5 _ _ _ _ _ _ _ _ _)
   | (with_reducible exact larderref03_FromWeek.mono _ _ _ _)
   | (with_reducible exact larderref03_date.mono _ _)
   | (with_reducible exact larderref03_long.mono _ _ _)
   | (with_reducible exact larderref03_num.mono _ _ _ _)
   | (with_reducible exact larderref03_shaped.mono _ _ _)
   | (with_reducible exact LeO.refl _)
   | (with_reducible exact LeO.none _)
   | (with_reducible refine LeO.ite ?_ ?_)
   | (with_reducible refine LeO.bind ?_ (fun _ => ?_))
   | exact ih0 _ _ _ _ _ _ _ _
   | exact ih1 _ _ _ _ _ _ _ _ _
   | exact ih2 _ _ _ _ _ _ _
   | exact ih3 _ _ _ _ _ _ _
   | exact ih4 _ _ _ _ _ _ _
   | exact ih5 _ _ _ _ _ _ _ _ _
   | exact larderref03_FromWeek.mono _ _ _ _
   | exact larderref03_date.mono _ _
   | exact larderref03_long.mono _ _ _
   | exact larderref03_num.mono _ _ _ _
   | exact larderref03_shaped.mono _ _ _
   | exact LeO.none _
   | refine LeO.ite ?_ ?_
   | refine LeO.bind ?_ (fun _ => ?_)
  ·intro y0 y1 y2 y3 y4 y5 y6
   unfold larderref03_ParseDate.j4
   repeat' first
   | (with_reducible exact ih0 _ _ _ _ _ _ _ _)
   | (with_reducible exact ih1 _ _ _ _ _ _ _ _ _)
   | (with_reducible exact ih2 _ _ _ _ _ _ _)
   | (with_reducible exact ih3 _ _ _ _ _ _ _)
   | (with_reducible exact ih4 _ _ _ _ _ _ _)
   | (with_reducible exact ih5 _ _ _ _ _ _ _ _ _)
   | (with_reducible exact larderref03_FromWeek.mono _ _ _ _)
   | (with_reducible exact larderref03_date.mono _ _)
   | (with_reducible exact larderref03_long.mono _ _ _)
   | (with_reducible exact larderref03_num.mono _ _ _ _)
   | (with_reducible exact larderref03_shaped.mono _ _ _)
   | (with_reducible exact LeO.refl _)
   | (with_reducible exact LeO.none _)
   | (with_reducible refine LeO.ite ?_ ?_)
   | (with_reducible refine LeO.bind ?_ (fun _ => ?_))
   | exact ih0 _ _ _ _ _ _ _ _
   | exact ih1 _ _ _ _ _ _ _ _ _
   | exact ih2 _ _ _ _ _ _ _
   | exact ih3 _ _ _ _ _ _ _
   | exact ih4 _ _ _ _ _ _ _
   | exact ih5 _ _ _ _ _ _ _ _ _
   | exact larderref03_FromWeek.mono _ _ _ _
   | exact larderref03_date.mono _ _
   | exact larderref03_long.mono _ _ _
   | exact larderref03_num.mono _ _ _ _
   | exact larderref03_shaped.mono _ _ _
   | exact LeO.none _
   | refine LeO.ite ?_ ?_
   | refine LeO.bind ?_ (fun _ => ?_)
  ·intro y0 y1 y2 y3 y4 y5 y6 y7 y8
   unfold larderref03_ParseDate.j5
   repeat' first
   | (with_reducible exact ih0 _ _ _ _ _ _ _ _)
   | (with_reducible exact ih1 _ _ _ _ _ _ _ _ _)
   | (with_reducible exact ih2 _ _ _ _ _ _ _)
   | (with_reducible exact ih3 _ _ _ _ _ _ _)
   | (with_reducible exact ih4 _ _ _ _ _ _ _)
   | (with_reducible exact ih5 _ _ _ _ _ _ _ _ _)
   | (with_reducible exact larderref03_FromWeek.mono _ _ _ _)
   | (with_reducible exact larderref03_date.mono _ _)
   | (with_reducible exact larderref03_long.mono _ _ _)
   | (with_reducible exact larderref03_num.mono _ _ _ _)
   | (with_reducible exact larderref03_shaped.mono _ _ _)
   | (with_reducible exact LeO.refl _)
   | (with_reducible exact LeO.none _)
   | (with_reducible refine LeO.ite ?_ ?_)
   | (with_reducible refine LeO.bind ?_ (fun _ => ?_))
   | exact ih0 _ _ _ _ _ _ _ _
   | exact ih1 _ _ _ _ _ _ _ _ _
   | exact ih2 _ _ _ _ _ _ _
   | exact ih3 _ _ _ _ _ _ _
   | exact ih4 _ _ _ _ _ _ _
   | exact ih5 _ _ _ _ _ _ _ _ _
   | exact larderref03_FromWeek.mono _ _ _ _
   | exact larderref03_date.mono _ _
   | exact larderref03_long.mono _ _ _
   | exact larderref03_num.mono _ _ _ _
   | exact larderref03_shaped.mono _ _ _
   | exact LeO.none _
   | refine LeO.ite ?_ ?_
   | refine LeO.bind ?_ (fun _ => ?_)
theorem larderref03_ParseDate.mono : ∀ a0 k, LeO (larderref03_ParseDate.f k a0) (larderref03_ParseDate.f (k + 1) a0) := by
 intro a0 k
 obtain ⟨ih0, ih1, ih2, ih3, ih4, ih5⟩ := larderref03_ParseDate.mono_l k
 unfold larderref03_ParseDate.f
 repeat' first
   | (with_reducible exact ih0 _ _ _ _ _ _ _ _)
   | (with_reducible exact ih1 _ _ _ _ _ _ _ _ _)
   | (with_reducible exact ih2 _ _ _ _ _ _ _)
   | (with_reducible exact ih3 _ _ _ _ _ _ _)
   | (with_reducible exact ih4 _ _ _ _ _ _ _)
   | (with_reducible exact ih5 _ _ _ _ _ _ _ _ _)
   | (with_reducible exact larderref03_FromWeek.mono _ _ _ _)
   | (with_reducible exact larderref03_date.mono _ _)
   | (with_reducible exact larderref03_long.mono _ _ _)
   | (with_reducible exact larderref03_num.mono _ _ _ _)
   | (with_reducible exact larderref03_shaped.mono _ _ _)
   | (with_reducible exact LeO.refl _)
   | (with_reducible exact LeO.none _)
   | (with_reducible refine LeO.ite ?_ ?_)
   | (with_reducible refine LeO.bind ?_ (fun _ => ?_))
   | exact ih0 _ _ _ _ _ _ _ _
   | exact ih1 _ _ _ _ _ _ _ _ _
   | exact ih2 _ _ _ _ _ _ _
   | exact ih3 _ _ _ _ _ _ _
   | exact ih4 _ _ _ _ _ _ _
   | exact ih5 _ _ _ _ _ _ _ _ _
   | exact larderref03_FromWeek.mono _ _ _ _
   | exact larderref03_date.mono _ _
   | exact larderref03_long.mono _ _ _
   | exact larderref03_num.mono _ _ _ _
   | exact larderref03_shaped.mono _ _ _
   | exact LeO.none _
   | refine LeO.ite ?_ ?_
   | refine LeO.bind ?_ (fun _ => ?_)
set_option maxHeartbeats 8000000 in
set_option maxRecDepth 100000 in
theorem larderref03_ParseDate.calls (k : Nat) (a0 : ByteArray) (r1 : Int) (r2 : Int) (r3 : Int) (r4 : Int) (r5 : Int) (w : World) (h : larderref03_ParseDate.f k a0 = some (r1, r2, r3, r4, r5)) :
  Calls Tryd.prog 22 #[.string a0] w fun e w' => e = .returned (.tuple #[.agg #[.int .i64 r1, .int .i64 r2, .int .i64 r3], .int .i64 r4, .int .i64 r5]) ∧ Below w.heap.size w w' := by
 have hu23 := Tryd.underlying23
 have hu86 := Tryd.underlying86
 have HB := Aside0.mk (Below.refl w.heap.size w)
 have H : (if (a0.size : Int) > 64 then (some (0, 0, 0, 1, 0)) else ((larderref03_shaped.f k a0 (([(⟨#[100, 100, 100, 100, 45, 100, 100, 45, 100, 100]⟩ : ByteArray), (⟨#[100, 100, 100, 100, 100, 100, 100, 100]⟩ : ByteArray), (⟨#[100, 100, 100, 100, 45, 100, 100, 100]⟩ : ByteArray), (⟨#[100, 100, 100, 100, 100, 100, 100]⟩ : ByteArray), (⟨#[100, 100, 100, 100, 45, 87, 100, 100, 45, 100]⟩ : ByteArray), (⟨#[100, 100, 100, 100, 87, 100, 100, 100]⟩ : ByteArray)] : List ByteArray))).bind fun bt220106 => (if bt220106.1 < 0 then (some (0, 0, 0, 31, bt220106.2)) else ((larderref03_num.f k a0 0 4).bind fun t220108 => (if bt220106.1 = 0 then (larderref03_ParseDate.j0 k a0 bt220106.1 t220108 bt220106.1 (bt220106.1 == 0) 0 0 0) else (larderref03_ParseDate.j0 k a0 bt220106.1 t220108 bt220106.1 (bt220106.1 == 1) 0 0 0)))))) = some (r1, r2, r3, r4, r5) := h
 clear h
 by_cases c2 : (a0.size : Int) > 64
 ·rw [if_pos c2] at H
  have c2b0 : decide (64 < (a0.size : Int)) = true := decide_eq_true c2
  have c2b1 : decide (64 < a0.size) = true := decide_eq_true (by omega)
  clear c2
  simp only [Option.some.injEq, Prod.mk.injEq] at H
  obtain ⟨rfl, rfl, rfl, rfl, rfl⟩ := H
  go_enter Tryd.func22, Tryd.ntmps22
  go_wp2_with (first | ((with_reducible refine gate_dst (N := 2) rfl ?_); refine box_event ?hg (N := 2) ?hd (cs := #[.int .i64 0, .int .i64 0, .int .i64 0]) (t := 23) ?hr ?_; (case hd => rfl); (case hg => rfl); (case hr => first | (go_simp; done) | (go_simp; rfl)); intro gb220101 hg w3 hbox hb; have n0_ := Aside0.mk (below_step (by repeat (first | (with_reducible first | exact HB.out | apply below_alloc | apply pw_below_drewN | apply below_drew1) | exact HB.out)) hb); have n1_ := Aside0.mk (hbox); have n2_ := Aside0.mk ((by rw [hg]; exact (below_size (by repeat (first | (with_reducible first | exact HB.out | apply below_alloc | apply pw_below_drewN | apply below_drew1) | exact HB.out))) : w.heap.size ≤ gb220101)); have n3_ := n2_; clear HB; have HB := n0_; have BK220101 := n1_; have GW220101 := n2_; have GE220101 := n3_; clear n0_ n1_ n2_ n3_; clear hb hbox hg) | ((with_reducible refine gate_dst (N := 5) rfl ?_); refine box_event ?hg (N := 5) ?hd (cs := #[.int .i64 0, .int .i64 0, .int .i64 0]) (t := 23) ?hr ?_; (case hd => rfl); (case hg => rfl); (case hr => first | (go_simp; done) | (go_simp; rfl)); intro gb220102 hg w4 hbox hb; have n0_ := Aside0.mk (blk_below (by (with_reducible repeat (first | apply blk_drewN | apply blk_drew | apply blk_alloc)); exact BK220101.out) hb); have n1_ := Aside0.mk (below_step (by repeat (first | (with_reducible first | exact HB.out | apply below_alloc | apply pw_below_drewN | apply below_drew1 | refine below_set ?_ GE220101.out) | exact HB.out)) hb); have n2_ := Aside0.mk (hbox); have n3_ := Aside0.mk ((by rw [hg]; exact (below_size (by repeat (first | (with_reducible first | exact HB.out | apply below_alloc | apply pw_below_drewN | apply below_drew1 | refine below_set ?_ GE220101.out) | exact HB.out))) : w.heap.size ≤ gb220102)); have n4_ := n3_; have n5_ := Aside0.mk ((by rw [hg]; exact Nat.ne_of_lt (blk_lt (by (with_reducible repeat (first | apply blk_drewN | apply blk_drew | apply blk_alloc)); exact BK220101.out)) : gb220101 ≠ gb220102)); have n6_ := Aside0.mk n5_.out.symm; clear BK220101; clear HB; have BK220101 := n0_; have HB := n1_; have BK220102 := n2_; have GW220102 := n3_; have GE220102 := n4_; have NB220101_220102 := n5_; have NB220102_220101 := n6_; clear n0_ n1_ n2_ n3_ n4_ n5_ n6_; clear hb hbox hg; have hnb5 := NB220102_220101.out; have hnc5 := NB220101_220102.out; have hcz6_0 : w4.cell? ⟨gb220102, 0, none⟩ = some (.int .i64 0) := (blk_cell BK220102.out 0).trans rfl; have hcz6_1 : w4.cell? ⟨gb220102, 1, none⟩ = some (.int .i64 0) := (blk_cell BK220102.out 1).trans rfl; have hcz6_2 : w4.cell? ⟨gb220102, 2, none⟩ = some (.int .i64 0) := (blk_cell BK220102.out 2).trans rfl; have hfz6_0 := blk_frozen BK220102.out 0; have hfz6_1 := blk_frozen BK220102.out 1; have hfz6_2 := blk_frozen BK220102.out 2; have hcz7_0 : w4.cell? ⟨gb220101, 0, none⟩ = some (.int .i64 0) := (blk_cell BK220101.out 0).trans rfl; have hcz7_1 : w4.cell? ⟨gb220101, 1, none⟩ = some (.int .i64 0) := (blk_cell BK220101.out 1).trans rfl; have hcz7_2 : w4.cell? ⟨gb220101, 2, none⟩ = some (.int .i64 0) := (blk_cell BK220101.out 2).trans rfl; have hfz7_0 := blk_frozen BK220101.out 0; have hfz7_1 := blk_frozen BK220101.out 1; have hfz7_2 := blk_frozen BK220101.out 2))
  refine bodyPost_ret (results_ctt rfl _ _ gb220101 23 #[.int .i64 0, .int .i64 0, .int .i64 0] (0, 0) _ rfl (by (with_reducible repeat (first | apply blk_drewN | apply blk_drew | apply blk_alloc)); refine blk_put (cs := #[.int .i64 0, .int .i64 0, .int .i64 0]) ?_ 2 _ rfl; (with_reducible repeat (first | apply blk_drewN | apply blk_drew | apply blk_alloc)); refine blk_put (cs := #[.int .i64 0, .int .i64 0, .int .i64 0]) ?_ 1 _ rfl; (with_reducible repeat (first | apply blk_drewN | apply blk_drew | apply blk_alloc)); refine blk_put (cs := #[.int .i64 0, .int .i64 0, .int .i64 0]) ?_ 0 _ rfl; (with_reducible repeat (first | apply blk_drewN | apply blk_drew | apply blk_alloc)); refine blk_far ?_ NB220101_220102.out _; (with_reducible repeat (first | apply blk_drewN | apply blk_drew | apply blk_alloc)); refine blk_far ?_ NB220101_220102.out _; (with_reducible repeat (first | apply blk_drewN | apply blk_drew | apply blk_alloc)); refine blk_far ?_ NB220101_220102.out _; (with_reducible repeat (first | apply blk_drewN | apply blk_drew | apply blk_alloc)); exact BK220101.out) Tryd.underlying23 rfl (by kernel_rfl)) rfl ?_
  exact ⟨by first | rfl | (simp [errW_none, errW_some] <;> rfl) | (simp [*, errW_none, errW_some] <;> rfl), by repeat (first | (with_reducible first | exact HB.out | apply below_alloc | apply pw_below_drewN | apply below_drew1 | refine below_set ?_ GE220101.out | refine below_set ?_ GE220102.out) | exact HB.out)⟩
 ·rw [if_neg c2] at H
  have c2b0 : decide (64 < (a0.size : Int)) = false := decide_eq_false c2
  have c2b1 : decide (64 < a0.size) = false := decide_eq_false (by omega)
  clear c2
  obtain ⟨y220103, hy220103⟩ : ∃ y_ : List ByteArray, y_ = (([(⟨#[100, 100, 100, 100, 45, 100, 100, 45, 100, 100]⟩ : ByteArray), (⟨#[100, 100, 100, 100, 100, 100, 100, 100]⟩ : ByteArray), (⟨#[100, 100, 100, 100, 45, 100, 100, 100]⟩ : ByteArray), (⟨#[100, 100, 100, 100, 100, 100, 100]⟩ : ByteArray), (⟨#[100, 100, 100, 100, 45, 87, 100, 100, 45, 100]⟩ : ByteArray), (⟨#[100, 100, 100, 100, 87, 100, 100, 100]⟩ : ByteArray)] : List ByteArray)) := ⟨_, rfl⟩
  replace H : ((larderref03_shaped.f k a0 y220103).bind fun bt220106 => (if bt220106.1 < 0 then (some (0, 0, 0, 31, bt220106.2)) else ((larderref03_num.f k a0 0 4).bind fun t220108 => (if bt220106.1 = 0 then (larderref03_ParseDate.j0 k a0 bt220106.1 t220108 bt220106.1 (bt220106.1 == 0) 0 0 0) else (larderref03_ParseDate.j0 k a0 bt220106.1 t220108 bt220106.1 (bt220106.1 == 1) 0 0 0))))) = some (r1, r2, r3, r4, r5) := by first | (rw [hy220103]; with_reducible exact H) | (have H2_ := (Option.bind_some _ _).symm.trans H; rw [hy220103]; with_reducible exact H2_) | (have H2_ := (Option.bind_some _ _).symm.trans H; with_reducible exact H2_) | with_reducible exact H | (rw [hy220103]; exact H) | exact H
  have Ny220103 := Aside0.mk hy220103
  clear hy220103
  replace H := Option.bind_eq_some_iff.mp H
  obtain ⟨⟨t220106, t220107⟩, A80, H⟩ := H
  replace H : (if t220106 < 0 then (some (0, 0, 0, 31, t220107)) else ((larderref03_num.f k a0 0 4).bind fun t220108 => (if t220106 = 0 then (larderref03_ParseDate.j0 k a0 t220106 t220108 t220106 (t220106 == 0) 0 0 0) else (larderref03_ParseDate.j0 k a0 t220106 t220108 t220106 (t220106 == 1) 0 0 0)))) = some (r1, r2, r3, r4, r5) := H
  have A8 := Aside0.mk A80
  clear A80
  by_cases c9 : t220106 < 0
  ·rw [if_pos c9] at H
   have c9b0 : decide (t220106 < 0) = true := decide_eq_true c9
   clear c9
   simp only [Option.some.injEq, Prod.mk.injEq] at H
   obtain ⟨rfl, rfl, rfl, rfl, rfl⟩ := H
   go_enter Tryd.func22, Tryd.ntmps22
   go_wp2_with (first | ((with_reducible refine gate_dst (N := 2) rfl ?_); refine box_event ?hg (N := 2) ?hd (cs := #[.int .i64 0, .int .i64 0, .int .i64 0]) (t := 23) ?hr ?_; (case hd => rfl); (case hg => rfl); (case hr => first | (go_simp; done) | (go_simp; rfl)); intro gb220101 hg w10 hbox hb; have n0_ := Aside0.mk (below_step (by repeat (first | (with_reducible first | exact HB.out | apply below_alloc | apply pw_below_drewN | apply below_drew1) | exact HB.out)) hb); have n1_ := Aside0.mk (hbox); have n2_ := Aside0.mk ((by rw [hg]; exact (below_size (by repeat (first | (with_reducible first | exact HB.out | apply below_alloc | apply pw_below_drewN | apply below_drew1) | exact HB.out))) : w.heap.size ≤ gb220101)); have n3_ := n2_; clear HB; have HB := n0_; have BK220101 := n1_; have GW220101 := n2_; have GE220101 := n3_; clear n0_ n1_ n2_ n3_; clear hb hbox hg) | ((with_reducible refine gate_dst (N := 5) rfl ?_); refine box_event ?hg (N := 5) ?hd (cs := #[.int .i64 0, .int .i64 0, .int .i64 0]) (t := 23) ?hr ?_; (case hd => rfl); (case hg => rfl); (case hr => first | (go_simp; done) | (go_simp; rfl)); intro gb220102 hg w11 hbox hb; have n0_ := Aside0.mk (blk_below (by (with_reducible repeat (first | apply blk_drewN | apply blk_drew | apply blk_alloc)); exact BK220101.out) hb); have n1_ := Aside0.mk (below_step (by repeat (first | (with_reducible first | exact HB.out | apply below_alloc | apply pw_below_drewN | apply below_drew1 | refine below_set ?_ GE220101.out) | exact HB.out)) hb); have n2_ := Aside0.mk (hbox); have n3_ := Aside0.mk ((by rw [hg]; exact (below_size (by repeat (first | (with_reducible first | exact HB.out | apply below_alloc | apply pw_below_drewN | apply below_drew1 | refine below_set ?_ GE220101.out) | exact HB.out))) : w.heap.size ≤ gb220102)); have n4_ := n3_; have n5_ := Aside0.mk ((by rw [hg]; exact Nat.ne_of_lt (blk_lt (by (with_reducible repeat (first | apply blk_drewN | apply blk_drew | apply blk_alloc)); exact BK220101.out)) : gb220101 ≠ gb220102)); have n6_ := Aside0.mk n5_.out.symm; clear BK220101; clear HB; have BK220101 := n0_; have HB := n1_; have BK220102 := n2_; have GW220102 := n3_; have GE220102 := n4_; have NB220101_220102 := n5_; have NB220102_220101 := n6_; clear n0_ n1_ n2_ n3_ n4_ n5_ n6_; clear hb hbox hg; have hnb12 := NB220102_220101.out; have hnc12 := NB220101_220102.out; have hcz13_0 : w11.cell? ⟨gb220102, 0, none⟩ = some (.int .i64 0) := (blk_cell BK220102.out 0).trans rfl; have hcz13_1 : w11.cell? ⟨gb220102, 1, none⟩ = some (.int .i64 0) := (blk_cell BK220102.out 1).trans rfl; have hcz13_2 : w11.cell? ⟨gb220102, 2, none⟩ = some (.int .i64 0) := (blk_cell BK220102.out 2).trans rfl; have hfz13_0 := blk_frozen BK220102.out 0; have hfz13_1 := blk_frozen BK220102.out 1; have hfz13_2 := blk_frozen BK220102.out 2) | ((with_reducible refine gate_dst (N := 28) rfl ?_); refine Kd.R_lit Kd.string _ 9 ?hg (N := 28) ?hd (xs := ([(⟨#[100, 100, 100, 100, 45, 100, 100, 45, 100, 100]⟩ : ByteArray), (⟨#[100, 100, 100, 100, 100, 100, 100, 100]⟩ : ByteArray), (⟨#[100, 100, 100, 100, 45, 100, 100, 100]⟩ : ByteArray), (⟨#[100, 100, 100, 100, 100, 100, 100]⟩ : ByteArray), (⟨#[100, 100, 100, 100, 45, 87, 100, 100, 45, 100]⟩ : ByteArray), (⟨#[100, 100, 100, 100, 87, 100, 100, 100]⟩ : ByteArray)] : List ByteArray)) (inner := [.string (⟨#[100, 100, 100, 100, 45, 100, 100, 45, 100, 100]⟩ : ByteArray), .string (⟨#[100, 100, 100, 100, 100, 100, 100, 100]⟩ : ByteArray), .string (⟨#[100, 100, 100, 100, 45, 100, 100, 100]⟩ : ByteArray), .string (⟨#[100, 100, 100, 100, 100, 100, 100]⟩ : ByteArray), .string (⟨#[100, 100, 100, 100, 45, 87, 100, 100, 45, 100]⟩ : ByteArray), .string (⟨#[100, 100, 100, 100, 87, 100, 100, 100]⟩ : ByteArray)]) (ok := fun _ => True) (okp := fun _ => True) ?hr ?hp (fun _ hk => hk) trivial (Below.refl _ _) (Nat.le_refl _) (by simp) ?_; (case hd => rfl); (case hg => rfl); (case hr => first | (go_simp; done) | (go_simp; rfl)); (case hp => exact (Reps.one (show Kd.M Kd.string _ _ _ (⟨#[100, 100, 100, 100, 45, 100, 100, 45, 100, 100]⟩ : ByteArray) [.string (⟨#[100, 100, 100, 100, 45, 100, 100, 45, 100, 100]⟩ : ByteArray)] from rfl) (Reps.one (show Kd.M Kd.string _ _ _ (⟨#[100, 100, 100, 100, 100, 100, 100, 100]⟩ : ByteArray) [.string (⟨#[100, 100, 100, 100, 100, 100, 100, 100]⟩ : ByteArray)] from rfl) (Reps.one (show Kd.M Kd.string _ _ _ (⟨#[100, 100, 100, 100, 45, 100, 100, 100]⟩ : ByteArray) [.string (⟨#[100, 100, 100, 100, 45, 100, 100, 100]⟩ : ByteArray)] from rfl) (Reps.one (show Kd.M Kd.string _ _ _ (⟨#[100, 100, 100, 100, 100, 100, 100]⟩ : ByteArray) [.string (⟨#[100, 100, 100, 100, 100, 100, 100]⟩ : ByteArray)] from rfl) (Reps.one (show Kd.M Kd.string _ _ _ (⟨#[100, 100, 100, 100, 45, 87, 100, 100, 45, 100]⟩ : ByteArray) [.string (⟨#[100, 100, 100, 100, 45, 87, 100, 100, 45, 100]⟩ : ByteArray)] from rfl) (Reps.one (show Kd.M Kd.string _ _ _ (⟨#[100, 100, 100, 100, 87, 100, 100, 100]⟩ : ByteArray) [.string (⟨#[100, 100, 100, 100, 87, 100, 100, 100]⟩ : ByteArray)] from rfl) (Reps.none _ _)))))))); intro v220104 w14 ho15 hb hg_ hnew_; clear hg_ hnew_; (first | rw [← Ny220103.out] at ho15 | (simp only [Int.reduceToNat] at ho15; rw [← Ny220103.out] at ho15)); have n0_ := Aside0.mk (Kd.R_lower ho15 (below_size (by repeat (first | (with_reducible first | exact HB.out | apply below_alloc | apply pw_below_drewN | apply below_drew1 | refine below_set ?_ GE220101.out | refine below_set ?_ GE220102.out) | exact HB.out)))); have n1_ := Aside0.mk (blk_below (g := gb220101) (o := .cells #[.int .i64 0, .int .i64 0, .int .i64 0] 23 (0, 0)) (by (with_reducible repeat (first | apply blk_drewN | apply blk_drew | apply blk_alloc)); refine blk_far ?_ NB220101_220102.out _; (with_reducible repeat (first | apply blk_drewN | apply blk_drew | apply blk_alloc)); refine blk_far ?_ NB220101_220102.out _; (with_reducible repeat (first | apply blk_drewN | apply blk_drew | apply blk_alloc)); refine blk_far ?_ NB220101_220102.out _; (with_reducible repeat (first | apply blk_drewN | apply blk_drew | apply blk_alloc)); exact BK220101.out) hb); have n2_ := Aside0.mk (blk_below (g := gb220102) (o := .cells #[.int .i64 0, .int .i64 0, .int .i64 0] 23 (0, 0)) (by (with_reducible repeat (first | apply blk_drewN | apply blk_drew | apply blk_alloc)); refine blk_put (cs := #[.int .i64 0, .int .i64 0, .int .i64 0]) ?_ 2 _ rfl; (with_reducible repeat (first | apply blk_drewN | apply blk_drew | apply blk_alloc)); refine blk_put (cs := #[.int .i64 0, .int .i64 0, .int .i64 0]) ?_ 1 _ rfl; (with_reducible repeat (first | apply blk_drewN | apply blk_drew | apply blk_alloc)); refine blk_put (cs := #[.int .i64 0, .int .i64 0, .int .i64 0]) ?_ 0 _ rfl; (with_reducible repeat (first | apply blk_drewN | apply blk_drew | apply blk_alloc)); exact BK220102.out) hb); have n3_ := Aside0.mk (below_step (by repeat (first | (with_reducible first | exact HB.out | apply below_alloc | apply pw_below_drewN | apply below_drew1 | refine below_set ?_ GE220101.out | refine below_set ?_ GE220102.out) | exact HB.out)) hb); clear BK220101; clear BK220102; clear HB; have HO220105 := n0_; have BK220101 := n1_; have BK220102 := n2_; have HB := n3_; clear n0_ n1_ n2_ n3_; clear hb ho15; obtain ⟨Ao16, co16, eo16⟩ := Kd.R_slice HO220105.out; subst eo16) | ((with_reducible refine gate_callee (f := 45) rfl ?_); refine goesL_ (some 29) rfl rfl Tryd.func45 (by kernel_rfl) rfl #[.string a0, .slice Ao16 y220103.length co16] rfl (by (try simp only [List.map_toArray, List.map_cons, List.map_nil]); first | done | rfl) ?_; (with_reducible refine (larderref03_shaped.calls k a0 _ _ y220103 t220106 t220107 _ ?side1 ?side2 A8.out).mono ?_); (case side1 => repeat (first | exact (Kd.R_reads' HO220105.out).2.2 | (with_reducible refine Kd.C_alloc ?_ _) | (with_reducible refine Kd.C_drewN ?_ _) | (with_reducible refine Kd.C_drew ?_))); (case side2 => exact (Kd.R_reads' HO220105.out).2.1); rintro e w' ⟨rfl, ⟨nd, rfl⟩⟩; refine ⟨_, rfl, ?_⟩; (try (rw [drewN_self w14]; generalize hq_ : World.drewN w14 _ = w14; have n0_ : Aside0 (Kd.R Kd.string 9 w14 w.heap.size (fun _ => True) (.slice Ao16 y220103.length co16) y220103) := ⟨by rw [← hq_]; exact (by (with_reducible repeat (first | apply Kd.R_alloc | apply Kd.R_drewN | apply Kd.R_drew)); exact HO220105.out)⟩; have n1_ : Aside0 (w14.heap[gb220101]? = some (.cells #[.int .i64 0, .int .i64 0, .int .i64 0] 23 (0, 0))) := ⟨by rw [← hq_]; exact (by (with_reducible repeat (first | apply blk_drewN | apply blk_drew | apply blk_alloc)); exact BK220101.out)⟩; have n2_ : Aside0 (w14.heap[gb220102]? = some (.cells #[.int .i64 0, .int .i64 0, .int .i64 0] 23 (0, 0))) := ⟨by rw [← hq_]; exact (by (with_reducible repeat (first | apply blk_drewN | apply blk_drew | apply blk_alloc)); exact BK220102.out)⟩; have n3_ : Aside0 (Below w.heap.size w w14) := ⟨by rw [← hq_]; exact (by repeat (first | (with_reducible first | exact HB.out | apply below_alloc | apply pw_below_drewN | apply below_drew1 | refine below_set ?_ GE220101.out | refine below_set ?_ GE220102.out) | exact HB.out))⟩; clear HO220105 BK220101 BK220102 HB hq_; have HO220105 := n0_; have BK220101 := n1_; have BK220102 := n2_; have HB := n3_; clear n0_ n1_ n2_ n3_)); have hcz17_0 : w14.cell? ⟨gb220102, 0, none⟩ = some (.int .i64 0) := (blk_cell BK220102.out 0).trans rfl; have hcz17_1 : w14.cell? ⟨gb220102, 1, none⟩ = some (.int .i64 0) := (blk_cell BK220102.out 1).trans rfl; have hcz17_2 : w14.cell? ⟨gb220102, 2, none⟩ = some (.int .i64 0) := (blk_cell BK220102.out 2).trans rfl; have hfz17_0 := blk_frozen BK220102.out 0; have hfz17_1 := blk_frozen BK220102.out 1; have hfz17_2 := blk_frozen BK220102.out 2; have hcz18_0 : w14.cell? ⟨gb220101, 0, none⟩ = some (.int .i64 0) := (blk_cell BK220101.out 0).trans rfl; have hcz18_1 : w14.cell? ⟨gb220101, 1, none⟩ = some (.int .i64 0) := (blk_cell BK220101.out 1).trans rfl; have hcz18_2 : w14.cell? ⟨gb220101, 2, none⟩ = some (.int .i64 0) := (blk_cell BK220101.out 2).trans rfl; have hfz18_0 := blk_frozen BK220101.out 0; have hfz18_1 := blk_frozen BK220101.out 1; have hfz18_2 := blk_frozen BK220101.out 2))
   refine bodyPost_ret (results_ctt rfl _ _ gb220101 23 #[.int .i64 0, .int .i64 0, .int .i64 0] (0, 0) _ rfl (by (with_reducible repeat (first | apply blk_drewN | apply blk_drew | apply blk_alloc)); refine blk_put (cs := #[.int .i64 0, .int .i64 0, .int .i64 0]) ?_ 2 _ rfl; (with_reducible repeat (first | apply blk_drewN | apply blk_drew | apply blk_alloc)); refine blk_put (cs := #[.int .i64 0, .int .i64 0, .int .i64 0]) ?_ 1 _ rfl; (with_reducible repeat (first | apply blk_drewN | apply blk_drew | apply blk_alloc)); refine blk_put (cs := #[.int .i64 0, .int .i64 0, .int .i64 0]) ?_ 0 _ rfl; (with_reducible repeat (first | apply blk_drewN | apply blk_drew | apply blk_alloc)); exact BK220101.out) Tryd.underlying23 rfl (by kernel_rfl)) rfl ?_
   exact ⟨by first | rfl | (simp [errW_none, errW_some] <;> rfl) | (simp [*, errW_none, errW_some] <;> rfl), by repeat (first | (with_reducible first | exact HB.out | apply below_alloc | apply pw_below_drewN | apply below_drew1 | refine below_set ?_ GE220101.out | refine below_set ?_ GE220102.out) | exact HB.out)⟩
  ·rw [if_neg c9] at H
   have c9b0 : decide (t220106 < 0) = false := decide_eq_false c9
   clear c9
   replace H := Option.bind_eq_some_iff.mp H
   obtain ⟨t220108, A190, H⟩ := H
   replace H : (if t220106 = 0 then (larderref03_ParseDate.j0 k a0 t220106 t220108 t220106 (t220106 == 0) 0 0 0) else (larderref03_ParseDate.j0 k a0 t220106 t220108 t220106 (t220106 == 1) 0 0 0)) = some (r1, r2, r3, r4, r5) := H
   have A19 := Aside0.mk A190
   clear A190
   have HC20 := Aside0.mk H
   clear H
   go_enter Tryd.func22, Tryd.ntmps22
   go_upto_if 39 with (first | ((with_reducible refine gate_dst (N := 2) rfl ?_); refine box_event ?hg (N := 2) ?hd (cs := #[.int .i64 0, .int .i64 0, .int .i64 0]) (t := 23) ?hr ?_; (case hd => rfl); (case hg => rfl); (case hr => first | (go_simp; done) | (go_simp; rfl)); intro gb220101 hg w21 hbox hb; have n0_ := Aside0.mk (below_step (by repeat (first | (with_reducible first | exact HB.out | apply below_alloc | apply pw_below_drewN | apply below_drew1) | exact HB.out)) hb); have n1_ := Aside0.mk (hbox); have n2_ := Aside0.mk ((by rw [hg]; exact (below_size (by repeat (first | (with_reducible first | exact HB.out | apply below_alloc | apply pw_below_drewN | apply below_drew1) | exact HB.out))) : w.heap.size ≤ gb220101)); have n3_ := n2_; clear HB; have HB := n0_; have BK220101 := n1_; have GW220101 := n2_; have GE220101 := n3_; clear n0_ n1_ n2_ n3_; clear hb hbox hg) | ((with_reducible refine gate_dst (N := 5) rfl ?_); refine box_event ?hg (N := 5) ?hd (cs := #[.int .i64 0, .int .i64 0, .int .i64 0]) (t := 23) ?hr ?_; (case hd => rfl); (case hg => rfl); (case hr => first | (go_simp; done) | (go_simp; rfl)); intro gb220102 hg w22 hbox hb; have n0_ := Aside0.mk (blk_below (by (with_reducible repeat (first | apply blk_drewN | apply blk_drew | apply blk_alloc)); exact BK220101.out) hb); have n1_ := Aside0.mk (below_step (by repeat (first | (with_reducible first | exact HB.out | apply below_alloc | apply pw_below_drewN | apply below_drew1 | refine below_set ?_ GE220101.out) | exact HB.out)) hb); have n2_ := Aside0.mk (hbox); have n3_ := Aside0.mk ((by rw [hg]; exact (below_size (by repeat (first | (with_reducible first | exact HB.out | apply below_alloc | apply pw_below_drewN | apply below_drew1 | refine below_set ?_ GE220101.out) | exact HB.out))) : w.heap.size ≤ gb220102)); have n4_ := n3_; have n5_ := Aside0.mk ((by rw [hg]; exact Nat.ne_of_lt (blk_lt (by (with_reducible repeat (first | apply blk_drewN | apply blk_drew | apply blk_alloc)); exact BK220101.out)) : gb220101 ≠ gb220102)); have n6_ := Aside0.mk n5_.out.symm; clear BK220101; clear HB; have BK220101 := n0_; have HB := n1_; have BK220102 := n2_; have GW220102 := n3_; have GE220102 := n4_; have NB220101_220102 := n5_; have NB220102_220101 := n6_; clear n0_ n1_ n2_ n3_ n4_ n5_ n6_; clear hb hbox hg; have hnb23 := NB220102_220101.out; have hnc23 := NB220101_220102.out; have hcz24_0 : w22.cell? ⟨gb220102, 0, none⟩ = some (.int .i64 0) := (blk_cell BK220102.out 0).trans rfl; have hcz24_1 : w22.cell? ⟨gb220102, 1, none⟩ = some (.int .i64 0) := (blk_cell BK220102.out 1).trans rfl; have hcz24_2 : w22.cell? ⟨gb220102, 2, none⟩ = some (.int .i64 0) := (blk_cell BK220102.out 2).trans rfl; have hfz24_0 := blk_frozen BK220102.out 0; have hfz24_1 := blk_frozen BK220102.out 1; have hfz24_2 := blk_frozen BK220102.out 2) | ((with_reducible refine gate_dst (N := 28) rfl ?_); refine Kd.R_lit Kd.string _ 9 ?hg (N := 28) ?hd (xs := ([(⟨#[100, 100, 100, 100, 45, 100, 100, 45, 100, 100]⟩ : ByteArray), (⟨#[100, 100, 100, 100, 100, 100, 100, 100]⟩ : ByteArray), (⟨#[100, 100, 100, 100, 45, 100, 100, 100]⟩ : ByteArray), (⟨#[100, 100, 100, 100, 100, 100, 100]⟩ : ByteArray), (⟨#[100, 100, 100, 100, 45, 87, 100, 100, 45, 100]⟩ : ByteArray), (⟨#[100, 100, 100, 100, 87, 100, 100, 100]⟩ : ByteArray)] : List ByteArray)) (inner := [.string (⟨#[100, 100, 100, 100, 45, 100, 100, 45, 100, 100]⟩ : ByteArray), .string (⟨#[100, 100, 100, 100, 100, 100, 100, 100]⟩ : ByteArray), .string (⟨#[100, 100, 100, 100, 45, 100, 100, 100]⟩ : ByteArray), .string (⟨#[100, 100, 100, 100, 100, 100, 100]⟩ : ByteArray), .string (⟨#[100, 100, 100, 100, 45, 87, 100, 100, 45, 100]⟩ : ByteArray), .string (⟨#[100, 100, 100, 100, 87, 100, 100, 100]⟩ : ByteArray)]) (ok := fun _ => True) (okp := fun _ => True) ?hr ?hp (fun _ hk => hk) trivial (Below.refl _ _) (Nat.le_refl _) (by simp) ?_; (case hd => rfl); (case hg => rfl); (case hr => first | (go_simp; done) | (go_simp; rfl)); (case hp => exact (Reps.one (show Kd.M Kd.string _ _ _ (⟨#[100, 100, 100, 100, 45, 100, 100, 45, 100, 100]⟩ : ByteArray) [.string (⟨#[100, 100, 100, 100, 45, 100, 100, 45, 100, 100]⟩ : ByteArray)] from rfl) (Reps.one (show Kd.M Kd.string _ _ _ (⟨#[100, 100, 100, 100, 100, 100, 100, 100]⟩ : ByteArray) [.string (⟨#[100, 100, 100, 100, 100, 100, 100, 100]⟩ : ByteArray)] from rfl) (Reps.one (show Kd.M Kd.string _ _ _ (⟨#[100, 100, 100, 100, 45, 100, 100, 100]⟩ : ByteArray) [.string (⟨#[100, 100, 100, 100, 45, 100, 100, 100]⟩ : ByteArray)] from rfl) (Reps.one (show Kd.M Kd.string _ _ _ (⟨#[100, 100, 100, 100, 100, 100, 100]⟩ : ByteArray) [.string (⟨#[100, 100, 100, 100, 100, 100, 100]⟩ : ByteArray)] from rfl) (Reps.one (show Kd.M Kd.string _ _ _ (⟨#[100, 100, 100, 100, 45, 87, 100, 100, 45, 100]⟩ : ByteArray) [.string (⟨#[100, 100, 100, 100, 45, 87, 100, 100, 45, 100]⟩ : ByteArray)] from rfl) (Reps.one (show Kd.M Kd.string _ _ _ (⟨#[100, 100, 100, 100, 87, 100, 100, 100]⟩ : ByteArray) [.string (⟨#[100, 100, 100, 100, 87, 100, 100, 100]⟩ : ByteArray)] from rfl) (Reps.none _ _)))))))); intro v220104 w25 ho26 hb hg_ hnew_; clear hg_ hnew_; (first | rw [← Ny220103.out] at ho26 | (simp only [Int.reduceToNat] at ho26; rw [← Ny220103.out] at ho26)); have n0_ := Aside0.mk (Kd.R_lower ho26 (below_size (by repeat (first | (with_reducible first | exact HB.out | apply below_alloc | apply pw_below_drewN | apply below_drew1 | refine below_set ?_ GE220101.out | refine below_set ?_ GE220102.out) | exact HB.out)))); have n1_ := Aside0.mk (blk_below (g := gb220101) (o := .cells #[.int .i64 0, .int .i64 0, .int .i64 0] 23 (0, 0)) (by (with_reducible repeat (first | apply blk_drewN | apply blk_drew | apply blk_alloc)); refine blk_far ?_ NB220101_220102.out _; (with_reducible repeat (first | apply blk_drewN | apply blk_drew | apply blk_alloc)); refine blk_far ?_ NB220101_220102.out _; (with_reducible repeat (first | apply blk_drewN | apply blk_drew | apply blk_alloc)); refine blk_far ?_ NB220101_220102.out _; (with_reducible repeat (first | apply blk_drewN | apply blk_drew | apply blk_alloc)); exact BK220101.out) hb); have n2_ := Aside0.mk (blk_below (g := gb220102) (o := .cells #[.int .i64 0, .int .i64 0, .int .i64 0] 23 (0, 0)) (by (with_reducible repeat (first | apply blk_drewN | apply blk_drew | apply blk_alloc)); refine blk_put (cs := #[.int .i64 0, .int .i64 0, .int .i64 0]) ?_ 2 _ rfl; (with_reducible repeat (first | apply blk_drewN | apply blk_drew | apply blk_alloc)); refine blk_put (cs := #[.int .i64 0, .int .i64 0, .int .i64 0]) ?_ 1 _ rfl; (with_reducible repeat (first | apply blk_drewN | apply blk_drew | apply blk_alloc)); refine blk_put (cs := #[.int .i64 0, .int .i64 0, .int .i64 0]) ?_ 0 _ rfl; (with_reducible repeat (first | apply blk_drewN | apply blk_drew | apply blk_alloc)); exact BK220102.out) hb); have n3_ := Aside0.mk (below_step (by repeat (first | (with_reducible first | exact HB.out | apply below_alloc | apply pw_below_drewN | apply below_drew1 | refine below_set ?_ GE220101.out | refine below_set ?_ GE220102.out) | exact HB.out)) hb); clear BK220101; clear BK220102; clear HB; have HO220105 := n0_; have BK220101 := n1_; have BK220102 := n2_; have HB := n3_; clear n0_ n1_ n2_ n3_; clear hb ho26; obtain ⟨Ao27, co27, eo27⟩ := Kd.R_slice HO220105.out; subst eo27) | ((with_reducible refine gate_callee (f := 45) rfl ?_); refine goesL_ (some 29) rfl rfl Tryd.func45 (by kernel_rfl) rfl #[.string a0, .slice Ao27 y220103.length co27] rfl (by (try simp only [List.map_toArray, List.map_cons, List.map_nil]); first | done | rfl) ?_; (with_reducible refine (larderref03_shaped.calls k a0 _ _ y220103 t220106 t220107 _ ?side1 ?side2 A8.out).mono ?_); (case side1 => repeat (first | exact (Kd.R_reads' HO220105.out).2.2 | (with_reducible refine Kd.C_alloc ?_ _) | (with_reducible refine Kd.C_drewN ?_ _) | (with_reducible refine Kd.C_drew ?_))); (case side2 => exact (Kd.R_reads' HO220105.out).2.1); rintro e w' ⟨rfl, ⟨nd, rfl⟩⟩; refine ⟨_, rfl, ?_⟩) | ((with_reducible refine gate_callee (f := 46) rfl ?_); refine goesL_ (some 37) rfl rfl Tryd.func46 (by kernel_rfl) rfl #[.string a0, .int .i64 0, .int .i64 4] rfl (by (try simp only [List.map_toArray, List.map_cons, List.map_nil]); first | done | rfl) ?_; (with_reducible refine (larderref03_num.calls k a0 0 4 t220108 _ A19.out).mono ?_); rintro e w' ⟨rfl, ⟨nd, rfl⟩⟩; refine ⟨_, rfl, ?_⟩))
   (try simp only [Act.put, List.setIfInBounds_toArray, List.set_cons_zero, List.set_cons_succ])
   go_cut [39] (fun v39 wc => ∃ (kq : Nat) (x39_19 : Bool), v39 = .bool x39_19 ∧ Aside0 (larderref03_ParseDate.j0 kq a0 t220106 t220108 t220106 x39_19 0 0 0 = some (r1, r2, r3, r4, r5)) ∧ Aside0 (kq ≤ k) ∧ Aside0 (wc.heap[gb220101]? = some (.cells #[.int .i64 0, .int .i64 0, .int .i64 0] 23 (0, 0))) ∧ Aside0 (wc.heap[gb220102]? = some (.cells #[.int .i64 0, .int .i64 0, .int .i64 0] 23 (0, 0))) ∧ Aside0 (Below w.heap.size w wc))
   case first =>
    have H := HC20.out
    clear HC20
    by_cases c28 : t220106 = 0
    ·rw [if_pos c28] at H
     have c28b0 : (t220106 == 0) = true := beq_iff_eq.mpr c28
     have c28b1 : (t220106 != 0) = false := bne_eq_false_iff_eq.mpr c28
     clear c28
     (first | rw [c28b0] | (simp only [i64_w, i32_w]; rw [c28b0]) | skip)
     have H' := Aside0.mk H
     clear H
     go_wp2
     go_meet
     case rel => exact ⟨_, ((t220106 == 0)), (by first | rfl | (simp; done) | (simp [*]; done)), H', ⟨by first | omega | exact Nat.le_refl _⟩, ⟨by (with_reducible repeat (first | apply blk_drewN | apply blk_drew | apply blk_alloc)); exact BK220101.out⟩, ⟨by (with_reducible repeat (first | apply blk_drewN | apply blk_drew | apply blk_alloc)); exact BK220102.out⟩, ⟨by repeat (first | (with_reducible first | exact HB.out | apply below_alloc | apply pw_below_drewN | apply below_drew1 | refine below_set ?_ GE220101.out | refine below_set ?_ GE220102.out) | exact HB.out)⟩⟩
    ·rw [if_neg c28] at H
     have c28b0 : (t220106 == 0) = false := beq_eq_false_iff_ne.mpr c28
     have c28b1 : (t220106 != 0) = true := bne_iff_ne.mpr c28
     (first | rw [c28b0] | (simp only [i64_w, i32_w]; rw [c28b0]) | skip)
     have H' := Aside0.mk H
     clear H
     go_wp2
     go_meet
     case rel => exact ⟨_, ((t220106 == 1)), (by first | rfl | (simp; done) | (simp [*]; done)), H', ⟨by first | omega | exact Nat.le_refl _⟩, ⟨by (with_reducible repeat (first | apply blk_drewN | apply blk_drew | apply blk_alloc)); exact BK220101.out⟩, ⟨by (with_reducible repeat (first | apply blk_drewN | apply blk_drew | apply blk_alloc)); exact BK220102.out⟩, ⟨by repeat (first | (with_reducible first | exact HB.out | apply below_alloc | apply pw_below_drewN | apply below_drew1 | refine below_set ?_ GE220101.out | refine below_set ?_ GE220102.out) | exact HB.out)⟩⟩
   case rest =>
    clear HC20
    try clear c1
    try clear c2
    try clear c2b0
    try clear c2b1
    try clear p2
    try clear c4
    try clear c5
    try clear c9
    try clear c9b0
    try clear c12
    try clear c22
    try clear c23
    try clear c28
    try clear c28b0
    try clear c28b1
    try clear hcz13_0
    try clear hcz13_1
    try clear hcz13_2
    try clear hcz17_0
    try clear hcz17_1
    try clear hcz17_2
    try clear hcz18_0
    try clear hcz18_1
    try clear hcz18_2
    try clear hcz24_0
    try clear hcz24_1
    try clear hcz24_2
    try clear hcz6_0
    try clear hcz6_1
    try clear hcz6_2
    try clear hcz7_0
    try clear hcz7_1
    try clear hcz7_2
    try clear hfz13_0
    try clear hfz13_1
    try clear hfz13_2
    try clear hfz17_0
    try clear hfz17_1
    try clear hfz17_2
    try clear hfz18_0
    try clear hfz18_1
    try clear hfz18_2
    try clear hfz24_0
    try clear hfz24_1
    try clear hfz24_2
    try clear hfz6_0
    try clear hfz6_1
    try clear hfz6_2
    try clear hfz7_0
    try clear hfz7_1
    try clear hfz7_2
    obtain ⟨kq, x39_19, rfl, HA, HJ19, BK220101, BK220102, HB⟩ := hcut
    cases kq with
    | zero => exact absurd HA.out (by simp [larderref03_ParseDate.j0])
    | succ kj19 =>
     have H := HA.out
     clear HA
     simp only [larderref03_ParseDate.j0] at H
     by_cases c29 : x39_19 = true
     ·subst c29
      have H1 : ((larderref03_num.f kj19 a0 (wrap64 (5 - t220106)) 2).bind fun t220109 => (if t220109 < 1 then (larderref03_ParseDate.j1 kj19 a0 t220108 (wrap64 (5 - t220106)) (wrap64 (8 - (wrap64 (2 * t220106)))) t220109 true 0 0 0) else (larderref03_ParseDate.j1 kj19 a0 t220108 (wrap64 (5 - t220106)) (wrap64 (8 - (wrap64 (2 * t220106)))) t220109 (decide (t220109 > 12)) 0 0 0))) = some (r1, r2, r3, r4, r5) := by rw [if_pos rfl] at H; exact H
      clear H
      have H := H1
      clear H1
      replace H := Option.bind_eq_some_iff.mp H
      obtain ⟨t220109, A300, H⟩ := H
      replace H : (if t220109 < 1 then (larderref03_ParseDate.j1 kj19 a0 t220108 (wrap64 (5 - t220106)) (wrap64 (8 - (wrap64 (2 * t220106)))) t220109 true 0 0 0) else (larderref03_ParseDate.j1 kj19 a0 t220108 (wrap64 (5 - t220106)) (wrap64 (8 - (wrap64 (2 * t220106)))) t220109 (decide (t220109 > 12)) 0 0 0)) = some (r1, r2, r3, r4, r5) := H
      have A30 := Aside0.mk A300
      clear A300
      have HC31 := Aside0.mk H
      clear H
      go_upto_region 14 with (first | ((with_reducible refine gate_callee (f := 46) rfl ?_); refine goesL_ (some 49) rfl rfl Tryd.func46 (by kernel_rfl) rfl #[.string a0, .int .i64 (wrap64 (5 - t220106)), .int .i64 2] rfl (by (try simp only [List.map_toArray, List.map_cons, List.map_nil]); first | done | rfl) ?_; (with_reducible refine (larderref03_num.calls kj19 a0 (wrap64 (5 - t220106)) 2 t220109 _ A30.out).mono ?_); rintro e w' ⟨rfl, ⟨nd, rfl⟩⟩; refine ⟨_, rfl, ?_⟩))
      (try simp only [Act.put, List.setIfInBounds_toArray, List.set_cons_zero, List.set_cons_succ])
      go_cut [55] (fun v55 wc => ∃ (kq : Nat) (x55_30 : Bool), v55 = .bool x55_30 ∧ Aside0 (larderref03_ParseDate.j1 kq a0 t220108 (wrap64 (5 - t220106)) (wrap64 (8 - (wrap64 (2 * t220106)))) t220109 x55_30 0 0 0 = some (r1, r2, r3, r4, r5)) ∧ Aside0 (kq ≤ kj19) ∧ Aside0 (wc.heap[gb220101]? = some (.cells #[.int .i64 0, .int .i64 0, .int .i64 0] 23 (0, 0))) ∧ Aside0 (wc.heap[gb220102]? = some (.cells #[.int .i64 0, .int .i64 0, .int .i64 0] 23 (0, 0))) ∧ Aside0 (Below w.heap.size w wc))
      case first =>
       have H := HC31.out
       clear HC31
       by_cases c32 : t220109 < 1
       ·rw [if_pos c32] at H
        have c32b0 : decide (t220109 < 1) = true := decide_eq_true c32
        clear c32
        (first | rw [c32b0] | (simp only [i64_w, i32_w]; rw [c32b0]) | skip)
        have H' := Aside0.mk H
        clear H
        go_wp2
        go_meet
        case rel => exact ⟨_, (true), (by first | rfl | (simp; done) | (simp [*]; done)), H', ⟨by have := HJ19.out; first | omega | exact Nat.le_refl _⟩, ⟨by (with_reducible repeat (first | apply blk_drewN | apply blk_drew | apply blk_alloc)); exact BK220101.out⟩, ⟨by (with_reducible repeat (first | apply blk_drewN | apply blk_drew | apply blk_alloc)); exact BK220102.out⟩, ⟨by repeat (first | (with_reducible first | exact HB.out | apply below_alloc | apply pw_below_drewN | apply below_drew1 | refine below_set ?_ GE220101.out | refine below_set ?_ GE220102.out) | exact HB.out)⟩⟩
       ·rw [if_neg c32] at H
        have c32b0 : decide (t220109 < 1) = false := decide_eq_false c32
        clear c32
        (first | rw [c32b0] | (simp only [i64_w, i32_w]; rw [c32b0]) | skip)
        have H' := Aside0.mk H
        clear H
        go_wp2
        go_meet
        case rel => exact ⟨_, (decide (t220109 > 12)), (by first | rfl | (simp; done) | (simp [*]; done)), H', ⟨by have := HJ19.out; first | omega | exact Nat.le_refl _⟩, ⟨by (with_reducible repeat (first | apply blk_drewN | apply blk_drew | apply blk_alloc)); exact BK220101.out⟩, ⟨by (with_reducible repeat (first | apply blk_drewN | apply blk_drew | apply blk_alloc)); exact BK220102.out⟩, ⟨by repeat (first | (with_reducible first | exact HB.out | apply below_alloc | apply pw_below_drewN | apply below_drew1 | refine below_set ?_ GE220101.out | refine below_set ?_ GE220102.out) | exact HB.out)⟩⟩
      case rest =>
       clear HC31
       try clear c1
       try clear c2
       try clear c2b0
       try clear c2b1
       try clear p2
       try clear c3
       try clear c4
       try clear c5
       try clear p6
       try clear c9
       try clear c9b0
       try clear c12
       try clear c22
       try clear c23
       try clear c28
       try clear c28b0
       try clear c28b1
       try clear c29
       try clear c32
       try clear c32b0
       try clear hcz13_0
       try clear hcz13_1
       try clear hcz13_2
       try clear hcz17_0
       try clear hcz17_1
       try clear hcz17_2
       try clear hcz18_0
       try clear hcz18_1
       try clear hcz18_2
       try clear hcz24_0
       try clear hcz24_1
       try clear hcz24_2
       try clear hcz6_0
       try clear hcz6_1
       try clear hcz6_2
       try clear hcz7_0
       try clear hcz7_1
       try clear hcz7_2
       try clear hfz13_0
       try clear hfz13_1
       try clear hfz13_2
       try clear hfz17_0
       try clear hfz17_1
       try clear hfz17_2
       try clear hfz18_0
       try clear hfz18_1
       try clear hfz18_2
       try clear hfz24_0
       try clear hfz24_1
       try clear hfz24_2
       try clear hfz6_0
       try clear hfz6_1
       try clear hfz6_2
       try clear hfz7_0
       try clear hfz7_1
       try clear hfz7_2
       try clear p2
       obtain ⟨kq, x55_30, rfl, HA, HJ30, BK220101, BK220102, HB⟩ := hcut
       cases kq with
       | zero => exact absurd HA.out (by simp [larderref03_ParseDate.j1])
       | succ kj30 =>
        have H := HA.out
        clear HA
        simp only [larderref03_ParseDate.j1] at H
        by_cases c33 : x55_30 = true
        ·subst c33
         have H1 : (some (0, 0, 0, 30, (wrap64 (5 - t220106)))) = some (r1, r2, r3, r4, r5) := by rw [if_pos rfl] at H; exact H
         clear H
         have H := H1
         clear H1
         simp only [Option.some.injEq, Prod.mk.injEq] at H
         obtain ⟨rfl, rfl, rfl, rfl, rfl⟩ := H
         have hnb34 := NB220102_220101.out
         have hnc34 := NB220101_220102.out
         have hcz35_0 : wc.cell? ⟨gb220102, 0, none⟩ = some (.int .i64 0) := (blk_cell BK220102.out 0).trans rfl
         have hcz35_1 : wc.cell? ⟨gb220102, 1, none⟩ = some (.int .i64 0) := (blk_cell BK220102.out 1).trans rfl
         have hcz35_2 : wc.cell? ⟨gb220102, 2, none⟩ = some (.int .i64 0) := (blk_cell BK220102.out 2).trans rfl
         have hfz35_0 := blk_frozen BK220102.out 0
         have hfz35_1 := blk_frozen BK220102.out 1
         have hfz35_2 := blk_frozen BK220102.out 2
         have hcz36_0 : wc.cell? ⟨gb220101, 0, none⟩ = some (.int .i64 0) := (blk_cell BK220101.out 0).trans rfl
         have hcz36_1 : wc.cell? ⟨gb220101, 1, none⟩ = some (.int .i64 0) := (blk_cell BK220101.out 1).trans rfl
         have hcz36_2 : wc.cell? ⟨gb220101, 2, none⟩ = some (.int .i64 0) := (blk_cell BK220101.out 2).trans rfl
         have hfz36_0 := blk_frozen BK220101.out 0
         have hfz36_1 := blk_frozen BK220101.out 1
         have hfz36_2 := blk_frozen BK220101.out 2
         go_wp2
         refine bodyPost_ret (results_ctt rfl _ _ gb220101 23 #[.int .i64 0, .int .i64 0, .int .i64 0] (0, 0) _ rfl (by (with_reducible repeat (first | apply blk_drewN | apply blk_drew | apply blk_alloc)); refine blk_put (cs := #[.int .i64 0, .int .i64 0, .int .i64 0]) ?_ 2 _ rfl; (with_reducible repeat (first | apply blk_drewN | apply blk_drew | apply blk_alloc)); refine blk_put (cs := #[.int .i64 0, .int .i64 0, .int .i64 0]) ?_ 1 _ rfl; (with_reducible repeat (first | apply blk_drewN | apply blk_drew | apply blk_alloc)); refine blk_put (cs := #[.int .i64 0, .int .i64 0, .int .i64 0]) ?_ 0 _ rfl; (with_reducible repeat (first | apply blk_drewN | apply blk_drew | apply blk_alloc)); exact BK220101.out) Tryd.underlying23 rfl (by kernel_rfl)) rfl ?_
         exact ⟨by first | rfl | (simp [errW_none, errW_some] <;> rfl) | (simp [*, errW_none, errW_some] <;> rfl), by repeat (first | (with_reducible first | exact HB.out | apply below_alloc | apply pw_below_drewN | apply below_drew1 | refine below_set ?_ GE220101.out | refine below_set ?_ GE220102.out) | exact HB.out)⟩
        ·replace c33 := Bool.eq_false_iff.mpr c33
         subst c33
         have H1 : ((larderref03_num.f kj30 a0 (wrap64 (8 - (wrap64 (2 * t220106)))) 2).bind fun t220110 => (if t220110 < 1 then (some (0, 0, 0, 30, (wrap64 (8 - (wrap64 (2 * t220106)))))) else ((larderref03_long.f kj30 t220108 t220109).bind fun t220111 => (if t220110 > t220111 then (some (0, 0, 0, 30, (wrap64 (8 - (wrap64 (2 * t220106)))))) else (some (t220108, t220109, t220110, 0, 0)))))) = some (r1, r2, r3, r4, r5) := by rw [if_neg (show ¬ (false = true) by decide)] at H; exact H
         clear H
         have H := H1
         clear H1
         replace H := Option.bind_eq_some_iff.mp H
         obtain ⟨t220110, A370, H⟩ := H
         replace H : (if t220110 < 1 then (some (0, 0, 0, 30, (wrap64 (8 - (wrap64 (2 * t220106)))))) else ((larderref03_long.f kj30 t220108 t220109).bind fun t220111 => (if t220110 > t220111 then (some (0, 0, 0, 30, (wrap64 (8 - (wrap64 (2 * t220106)))))) else (some (t220108, t220109, t220110, 0, 0))))) = some (r1, r2, r3, r4, r5) := H
         have A37 := Aside0.mk A370
         clear A370
         by_cases c38 : t220110 < 1
         ·rw [if_pos c38] at H
          have c38b0 : decide (t220110 < 1) = true := decide_eq_true c38
          clear c38
          simp only [Option.some.injEq, Prod.mk.injEq] at H
          obtain ⟨rfl, rfl, rfl, rfl, rfl⟩ := H
          go_wp2_with (first | ((with_reducible refine gate_callee (f := 46) rfl ?_); refine goesL_ (some 60) rfl rfl Tryd.func46 (by kernel_rfl) rfl #[.string a0, .int .i64 (wrap64 (8 - (wrap64 (2 * t220106)))), .int .i64 2] rfl (by (try simp only [List.map_toArray, List.map_cons, List.map_nil]); first | done | rfl) ?_; (with_reducible refine (larderref03_num.calls kj30 a0 (wrap64 (8 - (wrap64 (2 * t220106)))) 2 t220110 _ A37.out).mono ?_); rintro e w' ⟨rfl, ⟨nd, rfl⟩⟩; refine ⟨_, rfl, ?_⟩; (try (rw [drewN_self wc]; generalize hq_ : World.drewN wc _ = wc; have n0_ : Aside0 (wc.heap[gb220101]? = some (.cells #[.int .i64 0, .int .i64 0, .int .i64 0] 23 (0, 0))) := ⟨by rw [← hq_]; exact (by (with_reducible repeat (first | apply blk_drewN | apply blk_drew | apply blk_alloc)); exact BK220101.out)⟩; have n1_ : Aside0 (wc.heap[gb220102]? = some (.cells #[.int .i64 0, .int .i64 0, .int .i64 0] 23 (0, 0))) := ⟨by rw [← hq_]; exact (by (with_reducible repeat (first | apply blk_drewN | apply blk_drew | apply blk_alloc)); exact BK220102.out)⟩; have n2_ : Aside0 (Below w.heap.size w wc) := ⟨by rw [← hq_]; exact (by repeat (first | (with_reducible first | exact HB.out | apply below_alloc | apply pw_below_drewN | apply below_drew1 | refine below_set ?_ GE220101.out | refine below_set ?_ GE220102.out) | exact HB.out))⟩; clear BK220101 BK220102 HB hq_; have BK220101 := n0_; have BK220102 := n1_; have HB := n2_; clear n0_ n1_ n2_)); have hnb39 := NB220102_220101.out; have hnc39 := NB220101_220102.out; have hcz40_0 : wc.cell? ⟨gb220102, 0, none⟩ = some (.int .i64 0) := (blk_cell BK220102.out 0).trans rfl; have hcz40_1 : wc.cell? ⟨gb220102, 1, none⟩ = some (.int .i64 0) := (blk_cell BK220102.out 1).trans rfl; have hcz40_2 : wc.cell? ⟨gb220102, 2, none⟩ = some (.int .i64 0) := (blk_cell BK220102.out 2).trans rfl; have hfz40_0 := blk_frozen BK220102.out 0; have hfz40_1 := blk_frozen BK220102.out 1; have hfz40_2 := blk_frozen BK220102.out 2; have hcz41_0 : wc.cell? ⟨gb220101, 0, none⟩ = some (.int .i64 0) := (blk_cell BK220101.out 0).trans rfl; have hcz41_1 : wc.cell? ⟨gb220101, 1, none⟩ = some (.int .i64 0) := (blk_cell BK220101.out 1).trans rfl; have hcz41_2 : wc.cell? ⟨gb220101, 2, none⟩ = some (.int .i64 0) := (blk_cell BK220101.out 2).trans rfl; have hfz41_0 := blk_frozen BK220101.out 0; have hfz41_1 := blk_frozen BK220101.out 1; have hfz41_2 := blk_frozen BK220101.out 2))
          refine bodyPost_ret (results_ctt rfl _ _ gb220101 23 #[.int .i64 0, .int .i64 0, .int .i64 0] (0, 0) _ rfl (by (with_reducible repeat (first | apply blk_drewN | apply blk_drew | apply blk_alloc)); refine blk_put (cs := #[.int .i64 0, .int .i64 0, .int .i64 0]) ?_ 2 _ rfl; (with_reducible repeat (first | apply blk_drewN | apply blk_drew | apply blk_alloc)); refine blk_put (cs := #[.int .i64 0, .int .i64 0, .int .i64 0]) ?_ 1 _ rfl; (with_reducible repeat (first | apply blk_drewN | apply blk_drew | apply blk_alloc)); refine blk_put (cs := #[.int .i64 0, .int .i64 0, .int .i64 0]) ?_ 0 _ rfl; (with_reducible repeat (first | apply blk_drewN | apply blk_drew | apply blk_alloc)); exact BK220101.out) Tryd.underlying23 rfl (by kernel_rfl)) rfl ?_
          exact ⟨by first | rfl | (simp [errW_none, errW_some] <;> rfl) | (simp [*, errW_none, errW_some] <;> rfl), by repeat (first | (with_reducible first | exact HB.out | apply below_alloc | apply pw_below_drewN | apply below_drew1 | refine below_set ?_ GE220101.out | refine below_set ?_ GE220102.out) | exact HB.out)⟩
         ·rw [if_neg c38] at H
          have c38b0 : decide (t220110 < 1) = false := decide_eq_false c38
          clear c38
          replace H := Option.bind_eq_some_iff.mp H
          obtain ⟨t220111, A420, H⟩ := H
          replace H : (if t220110 > t220111 then (some (0, 0, 0, 30, (wrap64 (8 - (wrap64 (2 * t220106)))))) else (some (t220108, t220109, t220110, 0, 0))) = some (r1, r2, r3, r4, r5) := H
          have A42 := Aside0.mk A420
          clear A420
          by_cases c43 : t220110 > t220111
          ·rw [if_pos c43] at H
           have c43b0 : decide (t220111 < t220110) = true := decide_eq_true c43
           clear c43
           simp only [Option.some.injEq, Prod.mk.injEq] at H
           obtain ⟨rfl, rfl, rfl, rfl, rfl⟩ := H
           go_wp2_with (first | ((with_reducible refine gate_callee (f := 46) rfl ?_); refine goesL_ (some 60) rfl rfl Tryd.func46 (by kernel_rfl) rfl #[.string a0, .int .i64 (wrap64 (8 - (wrap64 (2 * t220106)))), .int .i64 2] rfl (by (try simp only [List.map_toArray, List.map_cons, List.map_nil]); first | done | rfl) ?_; (with_reducible refine (larderref03_num.calls kj30 a0 (wrap64 (8 - (wrap64 (2 * t220106)))) 2 t220110 _ A37.out).mono ?_); rintro e w' ⟨rfl, ⟨nd, rfl⟩⟩; refine ⟨_, rfl, ?_⟩; (try (rw [drewN_self wc]; generalize hq_ : World.drewN wc _ = wc; have n0_ : Aside0 (wc.heap[gb220101]? = some (.cells #[.int .i64 0, .int .i64 0, .int .i64 0] 23 (0, 0))) := ⟨by rw [← hq_]; exact (by (with_reducible repeat (first | apply blk_drewN | apply blk_drew | apply blk_alloc)); exact BK220101.out)⟩; have n1_ : Aside0 (wc.heap[gb220102]? = some (.cells #[.int .i64 0, .int .i64 0, .int .i64 0] 23 (0, 0))) := ⟨by rw [← hq_]; exact (by (with_reducible repeat (first | apply blk_drewN | apply blk_drew | apply blk_alloc)); exact BK220102.out)⟩; have n2_ : Aside0 (Below w.heap.size w wc) := ⟨by rw [← hq_]; exact (by repeat (first | (with_reducible first | exact HB.out | apply below_alloc | apply pw_below_drewN | apply below_drew1 | refine below_set ?_ GE220101.out | refine below_set ?_ GE220102.out) | exact HB.out))⟩; clear BK220101 BK220102 HB hq_; have BK220101 := n0_; have BK220102 := n1_; have HB := n2_; clear n0_ n1_ n2_))) | (go_at_call 47; (with_reducible refine (larderref03_long.calls kj30 t220108 t220109 t220111 _ A42.out).mono ?_); rintro e w' ⟨rfl, ⟨nd, rfl⟩⟩; (try (rw [drewN_self wc]; generalize hq_ : World.drewN wc _ = wc; have n0_ : Aside0 (wc.heap[gb220101]? = some (.cells #[.int .i64 0, .int .i64 0, .int .i64 0] 23 (0, 0))) := ⟨by rw [← hq_]; exact (by (with_reducible repeat (first | apply blk_drewN | apply blk_drew | apply blk_alloc)); exact BK220101.out)⟩; have n1_ : Aside0 (wc.heap[gb220102]? = some (.cells #[.int .i64 0, .int .i64 0, .int .i64 0] 23 (0, 0))) := ⟨by rw [← hq_]; exact (by (with_reducible repeat (first | apply blk_drewN | apply blk_drew | apply blk_alloc)); exact BK220102.out)⟩; have n2_ : Aside0 (Below w.heap.size w wc) := ⟨by rw [← hq_]; exact (by repeat (first | (with_reducible first | exact HB.out | apply below_alloc | apply pw_below_drewN | apply below_drew1 | refine below_set ?_ GE220101.out | refine below_set ?_ GE220102.out) | exact HB.out))⟩; clear BK220101 BK220102 HB hq_; have BK220101 := n0_; have BK220102 := n1_; have HB := n2_; clear n0_ n1_ n2_)); have hnb44 := NB220102_220101.out; have hnc44 := NB220101_220102.out; have hcz45_0 : wc.cell? ⟨gb220102, 0, none⟩ = some (.int .i64 0) := (blk_cell BK220102.out 0).trans rfl; have hcz45_1 : wc.cell? ⟨gb220102, 1, none⟩ = some (.int .i64 0) := (blk_cell BK220102.out 1).trans rfl; have hcz45_2 : wc.cell? ⟨gb220102, 2, none⟩ = some (.int .i64 0) := (blk_cell BK220102.out 2).trans rfl; have hfz45_0 := blk_frozen BK220102.out 0; have hfz45_1 := blk_frozen BK220102.out 1; have hfz45_2 := blk_frozen BK220102.out 2; have hcz46_0 : wc.cell? ⟨gb220101, 0, none⟩ = some (.int .i64 0) := (blk_cell BK220101.out 0).trans rfl; have hcz46_1 : wc.cell? ⟨gb220101, 1, none⟩ = some (.int .i64 0) := (blk_cell BK220101.out 1).trans rfl; have hcz46_2 : wc.cell? ⟨gb220101, 2, none⟩ = some (.int .i64 0) := (blk_cell BK220101.out 2).trans rfl; have hfz46_0 := blk_frozen BK220101.out 0; have hfz46_1 := blk_frozen BK220101.out 1; have hfz46_2 := blk_frozen BK220101.out 2))
           refine bodyPost_ret (results_ctt rfl _ _ gb220101 23 #[.int .i64 0, .int .i64 0, .int .i64 0] (0, 0) _ rfl (by (with_reducible repeat (first | apply blk_drewN | apply blk_drew | apply blk_alloc)); refine blk_put (cs := #[.int .i64 0, .int .i64 0, .int .i64 0]) ?_ 2 _ rfl; (with_reducible repeat (first | apply blk_drewN | apply blk_drew | apply blk_alloc)); refine blk_put (cs := #[.int .i64 0, .int .i64 0, .int .i64 0]) ?_ 1 _ rfl; (with_reducible repeat (first | apply blk_drewN | apply blk_drew | apply blk_alloc)); refine blk_put (cs := #[.int .i64 0, .int .i64 0, .int .i64 0]) ?_ 0 _ rfl; (with_reducible repeat (first | apply blk_drewN | apply blk_drew | apply blk_alloc)); exact BK220101.out) Tryd.underlying23 rfl (by kernel_rfl)) rfl ?_
           exact ⟨by first | rfl | (simp [errW_none, errW_some] <;> rfl) | (simp [*, errW_none, errW_some] <;> rfl), by repeat (first | (with_reducible first | exact HB.out | apply below_alloc | apply pw_below_drewN | apply below_drew1 | refine below_set ?_ GE220101.out | refine below_set ?_ GE220102.out) | exact HB.out)⟩
          ·rw [if_neg c43] at H
           have c43b0 : decide (t220111 < t220110) = false := decide_eq_false c43
           clear c43
           simp only [Option.some.injEq, Prod.mk.injEq] at H
           obtain ⟨rfl, rfl, rfl, rfl, rfl⟩ := H
           go_wp2_with (first | ((with_reducible refine gate_callee (f := 46) rfl ?_); refine goesL_ (some 60) rfl rfl Tryd.func46 (by kernel_rfl) rfl #[.string a0, .int .i64 (wrap64 (8 - (wrap64 (2 * t220106)))), .int .i64 2] rfl (by (try simp only [List.map_toArray, List.map_cons, List.map_nil]); first | done | rfl) ?_; (with_reducible refine (larderref03_num.calls kj30 a0 (wrap64 (8 - (wrap64 (2 * t220106)))) 2 t220110 _ A37.out).mono ?_); rintro e w' ⟨rfl, ⟨nd, rfl⟩⟩; refine ⟨_, rfl, ?_⟩; (try (rw [drewN_self wc]; generalize hq_ : World.drewN wc _ = wc; have n0_ : Aside0 (wc.heap[gb220101]? = some (.cells #[.int .i64 0, .int .i64 0, .int .i64 0] 23 (0, 0))) := ⟨by rw [← hq_]; exact (by (with_reducible repeat (first | apply blk_drewN | apply blk_drew | apply blk_alloc)); exact BK220101.out)⟩; have n1_ : Aside0 (wc.heap[gb220102]? = some (.cells #[.int .i64 0, .int .i64 0, .int .i64 0] 23 (0, 0))) := ⟨by rw [← hq_]; exact (by (with_reducible repeat (first | apply blk_drewN | apply blk_drew | apply blk_alloc)); exact BK220102.out)⟩; have n2_ : Aside0 (Below w.heap.size w wc) := ⟨by rw [← hq_]; exact (by repeat (first | (with_reducible first | exact HB.out | apply below_alloc | apply pw_below_drewN | apply below_drew1 | refine below_set ?_ GE220101.out | refine below_set ?_ GE220102.out) | exact HB.out))⟩; clear BK220101 BK220102 HB hq_; have BK220101 := n0_; have BK220102 := n1_; have HB := n2_; clear n0_ n1_ n2_))) | (go_at_call 47; (with_reducible refine (larderref03_long.calls kj30 t220108 t220109 t220111 _ A42.out).mono ?_); rintro e w' ⟨rfl, ⟨nd, rfl⟩⟩; (try (rw [drewN_self wc]; generalize hq_ : World.drewN wc _ = wc; have n0_ : Aside0 (wc.heap[gb220101]? = some (.cells #[.int .i64 0, .int .i64 0, .int .i64 0] 23 (0, 0))) := ⟨by rw [← hq_]; exact (by (with_reducible repeat (first | apply blk_drewN | apply blk_drew | apply blk_alloc)); exact BK220101.out)⟩; have n1_ : Aside0 (wc.heap[gb220102]? = some (.cells #[.int .i64 0, .int .i64 0, .int .i64 0] 23 (0, 0))) := ⟨by rw [← hq_]; exact (by (with_reducible repeat (first | apply blk_drewN | apply blk_drew | apply blk_alloc)); exact BK220102.out)⟩; have n2_ : Aside0 (Below w.heap.size w wc) := ⟨by rw [← hq_]; exact (by repeat (first | (with_reducible first | exact HB.out | apply below_alloc | apply pw_below_drewN | apply below_drew1 | refine below_set ?_ GE220101.out | refine below_set ?_ GE220102.out) | exact HB.out))⟩; clear BK220101 BK220102 HB hq_; have BK220101 := n0_; have BK220102 := n1_; have HB := n2_; clear n0_ n1_ n2_)); have hnb47 := NB220101_220102.out; have hnc47 := NB220102_220101.out; have hcz48_0 : wc.cell? ⟨gb220101, 0, none⟩ = some (.int .i64 0) := (blk_cell BK220101.out 0).trans rfl; have hcz48_1 : wc.cell? ⟨gb220101, 1, none⟩ = some (.int .i64 0) := (blk_cell BK220101.out 1).trans rfl; have hcz48_2 : wc.cell? ⟨gb220101, 2, none⟩ = some (.int .i64 0) := (blk_cell BK220101.out 2).trans rfl; have hfz48_0 := blk_frozen BK220101.out 0; have hfz48_1 := blk_frozen BK220101.out 1; have hfz48_2 := blk_frozen BK220101.out 2))
           refine bodyPost_ret (results_ctt rfl _ _ gb220101 23 #[.int .i64 t220108, .int .i64 t220109, .int .i64 t220110] (0, 0) _ rfl (by (with_reducible repeat (first | apply blk_drewN | apply blk_drew | apply blk_alloc)); refine blk_put (cs := #[.int .i64 t220108, .int .i64 t220109, .int .i64 0]) ?_ 2 _ rfl; (with_reducible repeat (first | apply blk_drewN | apply blk_drew | apply blk_alloc)); refine blk_put (cs := #[.int .i64 t220108, .int .i64 0, .int .i64 0]) ?_ 1 _ rfl; (with_reducible repeat (first | apply blk_drewN | apply blk_drew | apply blk_alloc)); refine blk_put (cs := #[.int .i64 0, .int .i64 0, .int .i64 0]) ?_ 0 _ rfl; (with_reducible repeat (first | apply blk_drewN | apply blk_drew | apply blk_alloc)); exact BK220101.out) Tryd.underlying23 rfl (by kernel_rfl)) rfl ?_
           exact ⟨by first | rfl | (simp [errW_none, errW_some] <;> rfl) | (simp [*, errW_none, errW_some] <;> rfl), by repeat (first | (with_reducible first | exact HB.out | apply below_alloc | apply pw_below_drewN | apply below_drew1 | refine below_set ?_ GE220101.out | refine below_set ?_ GE220102.out) | exact HB.out)⟩
     ·replace c29 := Bool.eq_false_iff.mpr c29
      subst c29
      have H1 : (if t220106 = 2 then (larderref03_ParseDate.j2 kj19 a0 t220106 t220108 (t220106 == 2) 0 0 0) else (larderref03_ParseDate.j2 kj19 a0 t220106 t220108 (t220106 == 3) 0 0 0)) = some (r1, r2, r3, r4, r5) := by rw [if_neg (show ¬ (false = true) by decide)] at H; exact H
      clear H
      have H := H1
      clear H1
      have HC49 := Aside0.mk H
      clear H
      go_upto_if 76 with (fail)
      go_cut [76] (fun v76 wc => ∃ (kq : Nat) (x76_48 : Bool), v76 = .bool x76_48 ∧ Aside0 (larderref03_ParseDate.j2 kq a0 t220106 t220108 x76_48 0 0 0 = some (r1, r2, r3, r4, r5)) ∧ Aside0 (kq ≤ kj19) ∧ Aside0 (wc.heap[gb220101]? = some (.cells #[.int .i64 0, .int .i64 0, .int .i64 0] 23 (0, 0))) ∧ Aside0 (wc.heap[gb220102]? = some (.cells #[.int .i64 0, .int .i64 0, .int .i64 0] 23 (0, 0))) ∧ Aside0 (Below w.heap.size w wc))
      case first =>
       have H := HC49.out
       clear HC49
       by_cases c50 : t220106 = 2
       ·rw [if_pos c50] at H
        have c50b0 : (t220106 == 2) = true := beq_iff_eq.mpr c50
        have c50b1 : (t220106 != 2) = false := bne_eq_false_iff_eq.mpr c50
        clear c50
        (first | rw [c50b0] | (simp only [i64_w, i32_w]; rw [c50b0]) | skip)
        have H' := Aside0.mk H
        clear H
        go_wp2
        go_meet
        case rel => exact ⟨_, ((t220106 == 2)), (by first | rfl | (simp; done) | (simp [*]; done)), H', ⟨by have := HJ19.out; first | omega | exact Nat.le_refl _⟩, ⟨by (with_reducible repeat (first | apply blk_drewN | apply blk_drew | apply blk_alloc)); exact BK220101.out⟩, ⟨by (with_reducible repeat (first | apply blk_drewN | apply blk_drew | apply blk_alloc)); exact BK220102.out⟩, ⟨by repeat (first | (with_reducible first | exact HB.out | apply below_alloc | apply pw_below_drewN | apply below_drew1 | refine below_set ?_ GE220101.out | refine below_set ?_ GE220102.out) | exact HB.out)⟩⟩
       ·rw [if_neg c50] at H
        have c50b0 : (t220106 == 2) = false := beq_eq_false_iff_ne.mpr c50
        have c50b1 : (t220106 != 2) = true := bne_iff_ne.mpr c50
        (first | rw [c50b0] | (simp only [i64_w, i32_w]; rw [c50b0]) | skip)
        have H' := Aside0.mk H
        clear H
        go_wp2
        go_meet
        case rel => exact ⟨_, ((t220106 == 3)), (by first | rfl | (simp; done) | (simp [*]; done)), H', ⟨by have := HJ19.out; first | omega | exact Nat.le_refl _⟩, ⟨by (with_reducible repeat (first | apply blk_drewN | apply blk_drew | apply blk_alloc)); exact BK220101.out⟩, ⟨by (with_reducible repeat (first | apply blk_drewN | apply blk_drew | apply blk_alloc)); exact BK220102.out⟩, ⟨by repeat (first | (with_reducible first | exact HB.out | apply below_alloc | apply pw_below_drewN | apply below_drew1 | refine below_set ?_ GE220101.out | refine below_set ?_ GE220102.out) | exact HB.out)⟩⟩
      case rest =>
       clear HC49
       try clear c1
       try clear c2
       try clear c2b0
       try clear c2b1
       try clear p2
       try clear c3
       try clear c4
       try clear c5
       try clear p6
       try clear c9
       try clear c9b0
       try clear c12
       try clear c22
       try clear c23
       try clear c28
       try clear c28b0
       try clear c28b1
       try clear c29
       try clear c32
       try clear c32b0
       try clear c33
       try clear c34
       try clear c38
       try clear c38b0
       try clear c39
       try clear c43
       try clear c43b0
       try clear c44
       try clear c45
       try clear c46
       try clear c47
       try clear c50
       try clear c50b0
       try clear c50b1
       try clear hcz13_0
       try clear hcz13_1
       try clear hcz13_2
       try clear hcz17_0
       try clear hcz17_1
       try clear hcz17_2
       try clear hcz18_0
       try clear hcz18_1
       try clear hcz18_2
       try clear hcz24_0
       try clear hcz24_1
       try clear hcz24_2
       try clear hcz35_0
       try clear hcz35_1
       try clear hcz35_2
       try clear hcz36_0
       try clear hcz36_1
       try clear hcz36_2
       try clear hcz40_0
       try clear hcz40_1
       try clear hcz40_2
       try clear hcz41_0
       try clear hcz41_1
       try clear hcz41_2
       try clear hcz45_0
       try clear hcz45_1
       try clear hcz45_2
       try clear hcz46_0
       try clear hcz46_1
       try clear hcz46_2
       try clear hcz48_0
       try clear hcz48_1
       try clear hcz48_2
       try clear hcz6_0
       try clear hcz6_1
       try clear hcz6_2
       try clear hcz7_0
       try clear hcz7_1
       try clear hcz7_2
       try clear hfz13_0
       try clear hfz13_1
       try clear hfz13_2
       try clear hfz17_0
       try clear hfz17_1
       try clear hfz17_2
       try clear hfz18_0
       try clear hfz18_1
       try clear hfz18_2
       try clear hfz24_0
       try clear hfz24_1
       try clear hfz24_2
       try clear hfz35_0
       try clear hfz35_1
       try clear hfz35_2
       try clear hfz36_0
       try clear hfz36_1
       try clear hfz36_2
       try clear hfz40_0
       try clear hfz40_1
       try clear hfz40_2
       try clear hfz41_0
       try clear hfz41_1
       try clear hfz41_2
       try clear hfz45_0
       try clear hfz45_1
       try clear hfz45_2
       try clear hfz46_0
       try clear hfz46_1
       try clear hfz46_2
       try clear hfz48_0
       try clear hfz48_1
       try clear hfz48_2
       try clear hfz6_0
       try clear hfz6_1
       try clear hfz6_2
       try clear hfz7_0
       try clear hfz7_1
       try clear hfz7_2
       try clear p2
       try clear p6
       obtain ⟨kq, x76_48, rfl, HA, HJ48, BK220101, BK220102, HB⟩ := hcut
       cases kq with
       | zero => exact absurd HA.out (by simp [larderref03_ParseDate.j2])
       | succ kj48 =>
        have H := HA.out
        clear HA
        simp only [larderref03_ParseDate.j2] at H
        by_cases c51 : x76_48 = true
        ·subst c51
         have H1 : ((larderref03_num.f kj48 a0 (wrap64 (7 - t220106)) 3).bind fun t220112 => (if t220112 < 1 then (larderref03_ParseDate.j3 kj48 t220108 (wrap64 (7 - t220106)) t220112 true 0 0 0) else ((larderref03_ahead.f (wrap64 (t220108 + 1))).bind fun t220113 => ((larderref03_ahead.f t220108).bind fun t220114 => (larderref03_ParseDate.j3 kj48 t220108 (wrap64 (7 - t220106)) t220112 (decide (t220112 > (wrap64 (t220113 - t220114)))) 0 0 0))))) = some (r1, r2, r3, r4, r5) := by rw [if_pos rfl] at H; exact H
         clear H
         have H := H1
         clear H1
         replace H := Option.bind_eq_some_iff.mp H
         obtain ⟨t220112, A520, H⟩ := H
         replace H : (if t220112 < 1 then (larderref03_ParseDate.j3 kj48 t220108 (wrap64 (7 - t220106)) t220112 true 0 0 0) else ((larderref03_ahead.f (wrap64 (t220108 + 1))).bind fun t220113 => ((larderref03_ahead.f t220108).bind fun t220114 => (larderref03_ParseDate.j3 kj48 t220108 (wrap64 (7 - t220106)) t220112 (decide (t220112 > (wrap64 (t220113 - t220114)))) 0 0 0)))) = some (r1, r2, r3, r4, r5) := H
         have A52 := Aside0.mk A520
         clear A520
         have HC53 := Aside0.mk H
         clear H
         go_upto_region 24 with (first | ((with_reducible refine gate_callee (f := 46) rfl ?_); refine goesL_ (some 83) rfl rfl Tryd.func46 (by kernel_rfl) rfl #[.string a0, .int .i64 (wrap64 (7 - t220106)), .int .i64 3] rfl (by (try simp only [List.map_toArray, List.map_cons, List.map_nil]); first | done | rfl) ?_; (with_reducible refine (larderref03_num.calls kj48 a0 (wrap64 (7 - t220106)) 3 t220112 _ A52.out).mono ?_); rintro e w' ⟨rfl, ⟨nd, rfl⟩⟩; refine ⟨_, rfl, ?_⟩))
         (try simp only [Act.put, List.setIfInBounds_toArray, List.set_cons_zero, List.set_cons_succ])
         go_cut [95] (fun v95 wc => ∃ (kq : Nat) (x95_52 : Bool), v95 = .bool x95_52 ∧ Aside0 (larderref03_ParseDate.j3 kq t220108 (wrap64 (7 - t220106)) t220112 x95_52 0 0 0 = some (r1, r2, r3, r4, r5)) ∧ Aside0 (kq ≤ kj48) ∧ Aside0 (wc.heap[gb220101]? = some (.cells #[.int .i64 0, .int .i64 0, .int .i64 0] 23 (0, 0))) ∧ Aside0 (wc.heap[gb220102]? = some (.cells #[.int .i64 0, .int .i64 0, .int .i64 0] 23 (0, 0))) ∧ Aside0 (Below w.heap.size w wc))
         case first =>
          have H := HC53.out
          clear HC53
          by_cases c54 : t220112 < 1
          ·rw [if_pos c54] at H
           have c54b0 : decide (t220112 < 1) = true := decide_eq_true c54
           clear c54
           (first | rw [c54b0] | (simp only [i64_w, i32_w]; rw [c54b0]) | skip)
           have H' := Aside0.mk H
           clear H
           go_wp2
           go_meet
           case rel => exact ⟨_, (true), (by first | rfl | (simp; done) | (simp [*]; done)), H', ⟨by have := HJ19.out; have := HJ48.out; first | omega | exact Nat.le_refl _⟩, ⟨by (with_reducible repeat (first | apply blk_drewN | apply blk_drew | apply blk_alloc)); exact BK220101.out⟩, ⟨by (with_reducible repeat (first | apply blk_drewN | apply blk_drew | apply blk_alloc)); exact BK220102.out⟩, ⟨by repeat (first | (with_reducible first | exact HB.out | apply below_alloc | apply pw_below_drewN | apply below_drew1 | refine below_set ?_ GE220101.out | refine below_set ?_ GE220102.out) | exact HB.out)⟩⟩
          ·rw [if_neg c54] at H
           have c54b0 : decide (t220112 < 1) = false := decide_eq_false c54
           clear c54
           (first | rw [c54b0] | (simp only [i64_w, i32_w]; rw [c54b0]) | skip)
           replace H := Option.bind_eq_some_iff.mp H
           obtain ⟨t220113, A550, H⟩ := H
           replace H : ((larderref03_ahead.f t220108).bind fun t220114 => (larderref03_ParseDate.j3 kj48 t220108 (wrap64 (7 - t220106)) t220112 (decide (t220112 > (wrap64 (t220113 - t220114)))) 0 0 0)) = some (r1, r2, r3, r4, r5) := H
           have A55 := Aside0.mk A550
           clear A550
           replace H := Option.bind_eq_some_iff.mp H
           obtain ⟨t220114, A560, H⟩ := H
           replace H : (larderref03_ParseDate.j3 kj48 t220108 (wrap64 (7 - t220106)) t220112 (decide (t220112 > (wrap64 (t220113 - t220114)))) 0 0 0) = some (r1, r2, r3, r4, r5) := H
           have A56 := Aside0.mk A560
           clear A560
           have H' := Aside0.mk H
           clear H
           go_wp2_with (first | (go_at_call 48; (with_reducible refine (larderref03_ahead.calls (wrap64 (t220108 + 1)) t220113 _ A55.out).mono ?_); rintro e w' ⟨rfl, ⟨nd, rfl⟩⟩) | (go_at_call 48; (with_reducible refine (larderref03_ahead.calls t220108 t220114 _ A56.out).mono ?_); rintro e w' ⟨rfl, ⟨nd, rfl⟩⟩))
           go_meet
           case rel => exact ⟨_, (decide (t220112 > (wrap64 (t220113 - t220114)))), (by first | rfl | (simp; done) | (simp [*]; done)), H', ⟨by have := HJ19.out; have := HJ48.out; first | omega | exact Nat.le_refl _⟩, ⟨by (with_reducible repeat (first | apply blk_drewN | apply blk_drew | apply blk_alloc)); exact BK220101.out⟩, ⟨by (with_reducible repeat (first | apply blk_drewN | apply blk_drew | apply blk_alloc)); exact BK220102.out⟩, ⟨by repeat (first | (with_reducible first | exact HB.out | apply below_alloc | apply pw_below_drewN | apply below_drew1 | refine below_set ?_ GE220101.out | refine below_set ?_ GE220102.out) | exact HB.out)⟩⟩
         case rest =>
          clear HC53
          try clear c1
          try clear c2
          try clear c2b0
          try clear c2b1
          try clear p2
          try clear c3
          try clear c4
          try clear c5
          try clear p6
          try clear c9
          try clear c9b0
          try clear c12
          try clear c22
          try clear c23
          try clear c28
          try clear c28b0
          try clear c28b1
          try clear c29
          try clear c32
          try clear c32b0
          try clear c33
          try clear c34
          try clear c38
          try clear c38b0
          try clear c39
          try clear c43
          try clear c43b0
          try clear c44
          try clear c45
          try clear c46
          try clear c47
          try clear c50
          try clear c50b0
          try clear c50b1
          try clear c51
          try clear c54
          try clear c54b0
          try clear hcz13_0
          try clear hcz13_1
          try clear hcz13_2
          try clear hcz17_0
          try clear hcz17_1
          try clear hcz17_2
          try clear hcz18_0
          try clear hcz18_1
          try clear hcz18_2
          try clear hcz24_0
          try clear hcz24_1
          try clear hcz24_2
          try clear hcz35_0
          try clear hcz35_1
          try clear hcz35_2
          try clear hcz36_0
          try clear hcz36_1
          try clear hcz36_2
          try clear hcz40_0
          try clear hcz40_1
          try clear hcz40_2
          try clear hcz41_0
          try clear hcz41_1
          try clear hcz41_2
          try clear hcz45_0
          try clear hcz45_1
          try clear hcz45_2
          try clear hcz46_0
          try clear hcz46_1
          try clear hcz46_2
          try clear hcz48_0
          try clear hcz48_1
          try clear hcz48_2
          try clear hcz6_0
          try clear hcz6_1
          try clear hcz6_2
          try clear hcz7_0
          try clear hcz7_1
          try clear hcz7_2
          try clear hfz13_0
          try clear hfz13_1
          try clear hfz13_2
          try clear hfz17_0
          try clear hfz17_1
          try clear hfz17_2
          try clear hfz18_0
          try clear hfz18_1
          try clear hfz18_2
          try clear hfz24_0
          try clear hfz24_1
          try clear hfz24_2
          try clear hfz35_0
          try clear hfz35_1
          try clear hfz35_2
          try clear hfz36_0
          try clear hfz36_1
          try clear hfz36_2
          try clear hfz40_0
          try clear hfz40_1
          try clear hfz40_2
          try clear hfz41_0
          try clear hfz41_1
          try clear hfz41_2
          try clear hfz45_0
          try clear hfz45_1
          try clear hfz45_2
          try clear hfz46_0
          try clear hfz46_1
          try clear hfz46_2
          try clear hfz48_0
          try clear hfz48_1
          try clear hfz48_2
          try clear hfz6_0
          try clear hfz6_1
          try clear hfz6_2
          try clear hfz7_0
          try clear hfz7_1
          try clear hfz7_2
          try clear p2
          try clear p6
          obtain ⟨kq, x95_52, rfl, HA, HJ52, BK220101, BK220102, HB⟩ := hcut
          cases kq with
          | zero => exact absurd HA.out (by simp [larderref03_ParseDate.j3])
          | succ kj52 =>
           have H := HA.out
           clear HA
           simp only [larderref03_ParseDate.j3] at H
           by_cases c57 : x95_52 = true
           ·subst c57
            have H1 : (some (0, 0, 0, 30, (wrap64 (7 - t220106)))) = some (r1, r2, r3, r4, r5) := by rw [if_pos rfl] at H; exact H
            clear H
            have H := H1
            clear H1
            simp only [Option.some.injEq, Prod.mk.injEq] at H
            obtain ⟨rfl, rfl, rfl, rfl, rfl⟩ := H
            have hnb58 := NB220102_220101.out
            have hnc58 := NB220101_220102.out
            have hcz59_0 : wc.cell? ⟨gb220102, 0, none⟩ = some (.int .i64 0) := (blk_cell BK220102.out 0).trans rfl
            have hcz59_1 : wc.cell? ⟨gb220102, 1, none⟩ = some (.int .i64 0) := (blk_cell BK220102.out 1).trans rfl
            have hcz59_2 : wc.cell? ⟨gb220102, 2, none⟩ = some (.int .i64 0) := (blk_cell BK220102.out 2).trans rfl
            have hfz59_0 := blk_frozen BK220102.out 0
            have hfz59_1 := blk_frozen BK220102.out 1
            have hfz59_2 := blk_frozen BK220102.out 2
            have hcz60_0 : wc.cell? ⟨gb220101, 0, none⟩ = some (.int .i64 0) := (blk_cell BK220101.out 0).trans rfl
            have hcz60_1 : wc.cell? ⟨gb220101, 1, none⟩ = some (.int .i64 0) := (blk_cell BK220101.out 1).trans rfl
            have hcz60_2 : wc.cell? ⟨gb220101, 2, none⟩ = some (.int .i64 0) := (blk_cell BK220101.out 2).trans rfl
            have hfz60_0 := blk_frozen BK220101.out 0
            have hfz60_1 := blk_frozen BK220101.out 1
            have hfz60_2 := blk_frozen BK220101.out 2
            go_wp2
            refine bodyPost_ret (results_ctt rfl _ _ gb220101 23 #[.int .i64 0, .int .i64 0, .int .i64 0] (0, 0) _ rfl (by (with_reducible repeat (first | apply blk_drewN | apply blk_drew | apply blk_alloc)); refine blk_put (cs := #[.int .i64 0, .int .i64 0, .int .i64 0]) ?_ 2 _ rfl; (with_reducible repeat (first | apply blk_drewN | apply blk_drew | apply blk_alloc)); refine blk_put (cs := #[.int .i64 0, .int .i64 0, .int .i64 0]) ?_ 1 _ rfl; (with_reducible repeat (first | apply blk_drewN | apply blk_drew | apply blk_alloc)); refine blk_put (cs := #[.int .i64 0, .int .i64 0, .int .i64 0]) ?_ 0 _ rfl; (with_reducible repeat (first | apply blk_drewN | apply blk_drew | apply blk_alloc)); exact BK220101.out) Tryd.underlying23 rfl (by kernel_rfl)) rfl ?_
            exact ⟨by first | rfl | (simp [errW_none, errW_some] <;> rfl) | (simp [*, errW_none, errW_some] <;> rfl), by repeat (first | (with_reducible first | exact HB.out | apply below_alloc | apply pw_below_drewN | apply below_drew1 | refine below_set ?_ GE220101.out | refine below_set ?_ GE220102.out) | exact HB.out)⟩
           ·replace c57 := Bool.eq_false_iff.mpr c57
            subst c57
            have H1 : ((larderref03_ahead.f t220108).bind fun t220115 => ((larderref03_date.f kj52 (wrap64 ((wrap64 (t220115 + t220112)) - 1))).bind fun bt220116 => (some (bt220116.1, bt220116.2.1, bt220116.2.2, 0, 0)))) = some (r1, r2, r3, r4, r5) := by rw [if_neg (show ¬ (false = true) by decide)] at H; exact H
            clear H
            have H := H1
            clear H1
            replace H := Option.bind_eq_some_iff.mp H
            obtain ⟨t220115, A610, H⟩ := H
            replace H : ((larderref03_date.f kj52 (wrap64 ((wrap64 (t220115 + t220112)) - 1))).bind fun bt220116 => (some (bt220116.1, bt220116.2.1, bt220116.2.2, 0, 0))) = some (r1, r2, r3, r4, r5) := H
            have A61 := Aside0.mk A610
            clear A610
            replace H := Option.bind_eq_some_iff.mp H
            obtain ⟨⟨t220116, t220117, t220118⟩, A620, H⟩ := H
            replace H : (some (t220116, t220117, t220118, 0, 0)) = some (r1, r2, r3, r4, r5) := H
            have A62 := Aside0.mk A620
            clear A620
            simp only [Option.some.injEq, Prod.mk.injEq] at H
            obtain ⟨rfl, rfl, rfl, rfl, rfl⟩ := H
            go_wp2_with (first | ((with_reducible refine gate_callee (f := 48) rfl ?_); refine goesL_ (some 99) rfl rfl Tryd.func48 (by kernel_rfl) rfl #[.int .i64 t220108] rfl (by (try simp only [List.map_toArray, List.map_cons, List.map_nil]); first | done | rfl) ?_; (with_reducible refine (larderref03_ahead.calls t220108 t220115 _ A61.out).mono ?_); rintro e w' ⟨rfl, ⟨nd, rfl⟩⟩; refine ⟨_, rfl, ?_⟩; (try (rw [drewN_self wc]; generalize hq_ : World.drewN wc _ = wc; have n0_ : Aside0 (wc.heap[gb220101]? = some (.cells #[.int .i64 0, .int .i64 0, .int .i64 0] 23 (0, 0))) := ⟨by rw [← hq_]; exact (by (with_reducible repeat (first | apply blk_drewN | apply blk_drew | apply blk_alloc)); exact BK220101.out)⟩; have n1_ : Aside0 (wc.heap[gb220102]? = some (.cells #[.int .i64 0, .int .i64 0, .int .i64 0] 23 (0, 0))) := ⟨by rw [← hq_]; exact (by (with_reducible repeat (first | apply blk_drewN | apply blk_drew | apply blk_alloc)); exact BK220102.out)⟩; have n2_ : Aside0 (Below w.heap.size w wc) := ⟨by rw [← hq_]; exact (by repeat (first | (with_reducible first | exact HB.out | apply below_alloc | apply pw_below_drewN | apply below_drew1 | refine below_set ?_ GE220101.out | refine below_set ?_ GE220102.out) | exact HB.out))⟩; clear BK220101 BK220102 HB hq_; have BK220101 := n0_; have BK220102 := n1_; have HB := n2_; clear n0_ n1_ n2_))) | ((with_reducible refine gate_callee (f := 40) rfl ?_); refine goesL_ (some 103) rfl rfl Tryd.func40 (by kernel_rfl) rfl #[.int .i64 (wrap64 ((wrap64 (t220115 + t220112)) - 1))] rfl (by (try simp only [List.map_toArray, List.map_cons, List.map_nil]); first | done | rfl) ?_; (with_reducible refine (larderref03_date.calls kj52 (wrap64 ((wrap64 (t220115 + t220112)) - 1)) t220116 t220117 t220118 _ A62.out).mono ?_); rintro e w63 ⟨rfl, hb⟩; refine ⟨_, rfl, ?_⟩; have n0_ := Aside0.mk (blk_below (by (with_reducible repeat (first | apply blk_drewN | apply blk_drew | apply blk_alloc)); exact BK220101.out) hb); have n1_ := Aside0.mk (blk_below (by (with_reducible repeat (first | apply blk_drewN | apply blk_drew | apply blk_alloc)); exact BK220102.out) hb); have n2_ := Aside0.mk (below_step (by repeat (first | (with_reducible first | exact HB.out | apply below_alloc | apply pw_below_drewN | apply below_drew1 | refine below_set ?_ GE220101.out | refine below_set ?_ GE220102.out) | exact HB.out)) hb); clear BK220101; clear BK220102; clear HB; have BK220101 := n0_; have BK220102 := n1_; have HB := n2_; clear n0_ n1_ n2_; (try clear hb); have hnb64 := NB220101_220102.out; have hnc64 := NB220102_220101.out; have hcz65_0 : w63.cell? ⟨gb220101, 0, none⟩ = some (.int .i64 0) := (blk_cell BK220101.out 0).trans rfl; have hcz65_1 : w63.cell? ⟨gb220101, 1, none⟩ = some (.int .i64 0) := (blk_cell BK220101.out 1).trans rfl; have hcz65_2 : w63.cell? ⟨gb220101, 2, none⟩ = some (.int .i64 0) := (blk_cell BK220101.out 2).trans rfl; have hfz65_0 := blk_frozen BK220101.out 0; have hfz65_1 := blk_frozen BK220101.out 1; have hfz65_2 := blk_frozen BK220101.out 2))
            refine bodyPost_ret (results_ctt rfl _ _ gb220101 23 #[.int .i64 t220116, .int .i64 t220117, .int .i64 t220118] (0, 0) _ rfl (by (with_reducible repeat (first | apply blk_drewN | apply blk_drew | apply blk_alloc)); refine blk_put (cs := #[.int .i64 t220116, .int .i64 t220117, .int .i64 0]) ?_ 2 _ rfl; (with_reducible repeat (first | apply blk_drewN | apply blk_drew | apply blk_alloc)); refine blk_put (cs := #[.int .i64 t220116, .int .i64 0, .int .i64 0]) ?_ 1 _ rfl; (with_reducible repeat (first | apply blk_drewN | apply blk_drew | apply blk_alloc)); refine blk_put (cs := #[.int .i64 0, .int .i64 0, .int .i64 0]) ?_ 0 _ rfl; (with_reducible repeat (first | apply blk_drewN | apply blk_drew | apply blk_alloc)); exact BK220101.out) Tryd.underlying23 rfl (by kernel_rfl)) rfl ?_
            exact ⟨by first | rfl | (simp [errW_none, errW_some] <;> rfl) | (simp [*, errW_none, errW_some] <;> rfl), by repeat (first | (with_reducible first | exact HB.out | apply below_alloc | apply pw_below_drewN | apply below_drew1 | refine below_set ?_ GE220101.out | refine below_set ?_ GE220102.out) | exact HB.out)⟩
        ·replace c51 := Bool.eq_false_iff.mpr c51
         subst c51
         have H1 : (if t220106 = 5 then (larderref03_ParseDate.j4 kj48 a0 t220108 (wrap64 (10 - t220106)) 7 0 0 0) else (larderref03_ParseDate.j4 kj48 a0 t220108 (wrap64 (10 - t220106)) 9 0 0 0)) = some (r1, r2, r3, r4, r5) := by rw [if_neg (show ¬ (false = true) by decide)] at H; exact H
         clear H
         have H := H1
         clear H1
         have HC66 := Aside0.mk H
         clear H
         go_upto_if 107 with (fail)
         go_cut [16] (fun v16 wc => ∃ (kq : Nat) (x16_65 : Int), v16 = .int .i64 x16_65 ∧ Aside0 (larderref03_ParseDate.j4 kq a0 t220108 (wrap64 (10 - t220106)) x16_65 0 0 0 = some (r1, r2, r3, r4, r5)) ∧ Aside0 (kq ≤ kj48) ∧ Aside0 (wc.heap[gb220101]? = some (.cells #[.int .i64 0, .int .i64 0, .int .i64 0] 23 (0, 0))) ∧ Aside0 (wc.heap[gb220102]? = some (.cells #[.int .i64 0, .int .i64 0, .int .i64 0] 23 (0, 0))) ∧ Aside0 (Below w.heap.size w wc))
         case first =>
          have H := HC66.out
          clear HC66
          by_cases c67 : t220106 = 5
          ·rw [if_pos c67] at H
           have c67b0 : (t220106 == 5) = true := beq_iff_eq.mpr c67
           have c67b1 : (t220106 != 5) = false := bne_eq_false_iff_eq.mpr c67
           clear c67
           (first | rw [c67b0] | (simp only [i64_w, i32_w]; rw [c67b0]) | skip)
           have H' := Aside0.mk H
           clear H
           go_wp2
           go_meet
           case rel => exact ⟨_, (7), (by first | rfl | (simp; done) | (simp [*]; done)), H', ⟨by have := HJ19.out; have := HJ48.out; first | omega | exact Nat.le_refl _⟩, ⟨by (with_reducible repeat (first | apply blk_drewN | apply blk_drew | apply blk_alloc)); exact BK220101.out⟩, ⟨by (with_reducible repeat (first | apply blk_drewN | apply blk_drew | apply blk_alloc)); exact BK220102.out⟩, ⟨by repeat (first | (with_reducible first | exact HB.out | apply below_alloc | apply pw_below_drewN | apply below_drew1 | refine below_set ?_ GE220101.out | refine below_set ?_ GE220102.out) | exact HB.out)⟩⟩
          ·rw [if_neg c67] at H
           have c67b0 : (t220106 == 5) = false := beq_eq_false_iff_ne.mpr c67
           have c67b1 : (t220106 != 5) = true := bne_iff_ne.mpr c67
           (first | rw [c67b0] | (simp only [i64_w, i32_w]; rw [c67b0]) | skip)
           have H' := Aside0.mk H
           clear H
           go_wp2
           go_meet
           case rel => exact ⟨_, (9), (by first | rfl | (simp; done) | (simp [*]; done)), H', ⟨by have := HJ19.out; have := HJ48.out; first | omega | exact Nat.le_refl _⟩, ⟨by (with_reducible repeat (first | apply blk_drewN | apply blk_drew | apply blk_alloc)); exact BK220101.out⟩, ⟨by (with_reducible repeat (first | apply blk_drewN | apply blk_drew | apply blk_alloc)); exact BK220102.out⟩, ⟨by repeat (first | (with_reducible first | exact HB.out | apply below_alloc | apply pw_below_drewN | apply below_drew1 | refine below_set ?_ GE220101.out | refine below_set ?_ GE220102.out) | exact HB.out)⟩⟩
         case rest =>
          clear HC66
          try clear c1
          try clear c2
          try clear c2b0
          try clear c2b1
          try clear p2
          try clear c3
          try clear c4
          try clear c5
          try clear c6
          try clear p6
          try clear c9
          try clear c9b0
          try clear c12
          try clear c22
          try clear c23
          try clear c28
          try clear c28b0
          try clear c28b1
          try clear c29
          try clear c32
          try clear c32b0
          try clear c33
          try clear c34
          try clear c38
          try clear c38b0
          try clear c39
          try clear c40
          try clear c43
          try clear c43b0
          try clear c44
          try clear c45
          try clear c46
          try clear c47
          try clear c48
          try clear c50
          try clear c50b0
          try clear c50b1
          try clear c51
          try clear c54
          try clear c54b0
          try clear c57
          try clear c58
          try clear c64
          try clear p64
          try clear c67
          try clear c67b0
          try clear c67b1
          try clear hcz13_0
          try clear hcz13_1
          try clear hcz13_2
          try clear hcz17_0
          try clear hcz17_1
          try clear hcz17_2
          try clear hcz18_0
          try clear hcz18_1
          try clear hcz18_2
          try clear hcz24_0
          try clear hcz24_1
          try clear hcz24_2
          try clear hcz35_0
          try clear hcz35_1
          try clear hcz35_2
          try clear hcz36_0
          try clear hcz36_1
          try clear hcz36_2
          try clear hcz40_0
          try clear hcz40_1
          try clear hcz40_2
          try clear hcz41_0
          try clear hcz41_1
          try clear hcz41_2
          try clear hcz45_0
          try clear hcz45_1
          try clear hcz45_2
          try clear hcz46_0
          try clear hcz46_1
          try clear hcz46_2
          try clear hcz48_0
          try clear hcz48_1
          try clear hcz48_2
          try clear hcz59_0
          try clear hcz59_1
          try clear hcz59_2
          try clear hcz60_0
          try clear hcz60_1
          try clear hcz60_2
          try clear hcz65_0
          try clear hcz65_1
          try clear hcz65_2
          try clear hcz6_0
          try clear hcz6_1
          try clear hcz6_2
          try clear hcz7_0
          try clear hcz7_1
          try clear hcz7_2
          try clear hfz13_0
          try clear hfz13_1
          try clear hfz13_2
          try clear hfz17_0
          try clear hfz17_1
          try clear hfz17_2
          try clear hfz18_0
          try clear hfz18_1
          try clear hfz18_2
          try clear hfz24_0
          try clear hfz24_1
          try clear hfz24_2
          try clear hfz35_0
          try clear hfz35_1
          try clear hfz35_2
          try clear hfz36_0
          try clear hfz36_1
          try clear hfz36_2
          try clear hfz40_0
          try clear hfz40_1
          try clear hfz40_2
          try clear hfz41_0
          try clear hfz41_1
          try clear hfz41_2
          try clear hfz45_0
          try clear hfz45_1
          try clear hfz45_2
          try clear hfz46_0
          try clear hfz46_1
          try clear hfz46_2
          try clear hfz48_0
          try clear hfz48_1
          try clear hfz48_2
          try clear hfz59_0
          try clear hfz59_1
          try clear hfz59_2
          try clear hfz60_0
          try clear hfz60_1
          try clear hfz60_2
          try clear hfz65_0
          try clear hfz65_1
          try clear hfz65_2
          try clear hfz6_0
          try clear hfz6_1
          try clear hfz6_2
          try clear hfz7_0
          try clear hfz7_1
          try clear hfz7_2
          try clear p2
          try clear p6
          obtain ⟨kq, x16_65, rfl, HA, HJ65, BK220101, BK220102, HB⟩ := hcut
          cases kq with
          | zero => exact absurd HA.out (by simp [larderref03_ParseDate.j4])
          | succ kj65 =>
           have H := HA.out
           clear HA
           simp only [larderref03_ParseDate.j4] at H
           replace H := Option.bind_eq_some_iff.mp H
           obtain ⟨t220119, A680, H⟩ := H
           replace H : (if t220119 < 1 then (larderref03_ParseDate.j5 kj65 a0 t220108 (wrap64 (10 - t220106)) x16_65 t220119 true 0 0 0) else ((larderref03_weeks.f t220108).bind fun t220120 => (larderref03_ParseDate.j5 kj65 a0 t220108 (wrap64 (10 - t220106)) x16_65 t220119 (decide (t220119 > t220120)) 0 0 0))) = some (r1, r2, r3, r4, r5) := H
           have A68 := Aside0.mk A680
           clear A680
           have HC69 := Aside0.mk H
           clear H
           go_upto_region 32 with (first | ((with_reducible refine gate_callee (f := 46) rfl ?_); refine goesL_ (some 110) rfl rfl Tryd.func46 (by kernel_rfl) rfl #[.string a0, .int .i64 (wrap64 (10 - t220106)), .int .i64 2] rfl (by (try simp only [List.map_toArray, List.map_cons, List.map_nil]); first | done | rfl) ?_; (with_reducible refine (larderref03_num.calls kj65 a0 (wrap64 (10 - t220106)) 2 t220119 _ A68.out).mono ?_); rintro e w' ⟨rfl, ⟨nd, rfl⟩⟩; refine ⟨_, rfl, ?_⟩))
           (try simp only [Act.put, List.setIfInBounds_toArray, List.set_cons_zero, List.set_cons_succ])
           go_cut [118] (fun v118 wc => ∃ (kq : Nat) (x118_68 : Bool), v118 = .bool x118_68 ∧ Aside0 (larderref03_ParseDate.j5 kq a0 t220108 (wrap64 (10 - t220106)) x16_65 t220119 x118_68 0 0 0 = some (r1, r2, r3, r4, r5)) ∧ Aside0 (kq ≤ kj65) ∧ Aside0 (wc.heap[gb220101]? = some (.cells #[.int .i64 0, .int .i64 0, .int .i64 0] 23 (0, 0))) ∧ Aside0 (wc.heap[gb220102]? = some (.cells #[.int .i64 0, .int .i64 0, .int .i64 0] 23 (0, 0))) ∧ Aside0 (Below w.heap.size w wc))
           case first =>
            have H := HC69.out
            clear HC69
            by_cases c70 : t220119 < 1
            ·rw [if_pos c70] at H
             have c70b0 : decide (t220119 < 1) = true := decide_eq_true c70
             clear c70
             (first | rw [c70b0] | (simp only [i64_w, i32_w]; rw [c70b0]) | skip)
             have H' := Aside0.mk H
             clear H
             go_wp2
             go_meet
             case rel => exact ⟨_, (true), (by first | rfl | (simp; done) | (simp [*]; done)), H', ⟨by have := HJ19.out; have := HJ48.out; have := HJ65.out; first | omega | exact Nat.le_refl _⟩, ⟨by (with_reducible repeat (first | apply blk_drewN | apply blk_drew | apply blk_alloc)); exact BK220101.out⟩, ⟨by (with_reducible repeat (first | apply blk_drewN | apply blk_drew | apply blk_alloc)); exact BK220102.out⟩, ⟨by repeat (first | (with_reducible first | exact HB.out | apply below_alloc | apply pw_below_drewN | apply below_drew1 | refine below_set ?_ GE220101.out | refine below_set ?_ GE220102.out) | exact HB.out)⟩⟩
            ·rw [if_neg c70] at H
             have c70b0 : decide (t220119 < 1) = false := decide_eq_false c70
             clear c70
             (first | rw [c70b0] | (simp only [i64_w, i32_w]; rw [c70b0]) | skip)
             replace H := Option.bind_eq_some_iff.mp H
             obtain ⟨t220120, A710, H⟩ := H
             replace H : (larderref03_ParseDate.j5 kj65 a0 t220108 (wrap64 (10 - t220106)) x16_65 t220119 (decide (t220119 > t220120)) 0 0 0) = some (r1, r2, r3, r4, r5) := H
             have A71 := Aside0.mk A710
             clear A710
             have H' := Aside0.mk H
             clear H
             go_wp2_with (first | (go_at_call 49; (with_reducible refine (larderref03_weeks.calls t220108 t220120 _ A71.out).mono ?_); rintro e w' ⟨rfl, ⟨nd, rfl⟩⟩))
             go_meet
             case rel => exact ⟨_, (decide (t220119 > t220120)), (by first | rfl | (simp; done) | (simp [*]; done)), H', ⟨by have := HJ19.out; have := HJ48.out; have := HJ65.out; first | omega | exact Nat.le_refl _⟩, ⟨by (with_reducible repeat (first | apply blk_drewN | apply blk_drew | apply blk_alloc)); exact BK220101.out⟩, ⟨by (with_reducible repeat (first | apply blk_drewN | apply blk_drew | apply blk_alloc)); exact BK220102.out⟩, ⟨by repeat (first | (with_reducible first | exact HB.out | apply below_alloc | apply pw_below_drewN | apply below_drew1 | refine below_set ?_ GE220101.out | refine below_set ?_ GE220102.out) | exact HB.out)⟩⟩
           case rest =>
            clear HC69
            try clear c1
            try clear c2
            try clear c2b0
            try clear c2b1
            try clear p2
            try clear c3
            try clear c4
            try clear c5
            try clear c6
            try clear p6
            try clear c7
            try clear c9
            try clear c9b0
            try clear c12
            try clear c22
            try clear c23
            try clear c28
            try clear c28b0
            try clear c28b1
            try clear c29
            try clear c32
            try clear c32b0
            try clear c33
            try clear c34
            try clear c38
            try clear c38b0
            try clear c39
            try clear c40
            try clear c43
            try clear c43b0
            try clear c44
            try clear c45
            try clear c46
            try clear c47
            try clear c48
            try clear c50
            try clear c50b0
            try clear c50b1
            try clear c51
            try clear c54
            try clear c54b0
            try clear c57
            try clear c58
            try clear c64
            try clear p64
            try clear c67
            try clear c67b0
            try clear c67b1
            try clear c70
            try clear c70b0
            try clear hcz13_0
            try clear hcz13_1
            try clear hcz13_2
            try clear hcz17_0
            try clear hcz17_1
            try clear hcz17_2
            try clear hcz18_0
            try clear hcz18_1
            try clear hcz18_2
            try clear hcz24_0
            try clear hcz24_1
            try clear hcz24_2
            try clear hcz35_0
            try clear hcz35_1
            try clear hcz35_2
            try clear hcz36_0
            try clear hcz36_1
            try clear hcz36_2
            try clear hcz40_0
            try clear hcz40_1
            try clear hcz40_2
            try clear hcz41_0
            try clear hcz41_1
            try clear hcz41_2
            try clear hcz45_0
            try clear hcz45_1
            try clear hcz45_2
            try clear hcz46_0
            try clear hcz46_1
            try clear hcz46_2
            try clear hcz48_0
            try clear hcz48_1
            try clear hcz48_2
            try clear hcz59_0
            try clear hcz59_1
            try clear hcz59_2
            try clear hcz60_0
            try clear hcz60_1
            try clear hcz60_2
            try clear hcz65_0
            try clear hcz65_1
            try clear hcz65_2
            try clear hcz6_0
            try clear hcz6_1
            try clear hcz6_2
            try clear hcz7_0
            try clear hcz7_1
            try clear hcz7_2
            try clear hfz13_0
            try clear hfz13_1
            try clear hfz13_2
            try clear hfz17_0
            try clear hfz17_1
            try clear hfz17_2
            try clear hfz18_0
            try clear hfz18_1
            try clear hfz18_2
            try clear hfz24_0
            try clear hfz24_1
            try clear hfz24_2
            try clear hfz35_0
            try clear hfz35_1
            try clear hfz35_2
            try clear hfz36_0
            try clear hfz36_1
            try clear hfz36_2
            try clear hfz40_0
            try clear hfz40_1
            try clear hfz40_2
            try clear hfz41_0
            try clear hfz41_1
            try clear hfz41_2
            try clear hfz45_0
            try clear hfz45_1
            try clear hfz45_2
            try clear hfz46_0
            try clear hfz46_1
            try clear hfz46_2
            try clear hfz48_0
            try clear hfz48_1
            try clear hfz48_2
            try clear hfz59_0
            try clear hfz59_1
            try clear hfz59_2
            try clear hfz60_0
            try clear hfz60_1
            try clear hfz60_2
            try clear hfz65_0
            try clear hfz65_1
            try clear hfz65_2
            try clear hfz6_0
            try clear hfz6_1
            try clear hfz6_2
            try clear hfz7_0
            try clear hfz7_1
            try clear hfz7_2
            try clear p2
            try clear p6
            try clear p64
            obtain ⟨kq, x118_68, rfl, HA, HJ68, BK220101, BK220102, HB⟩ := hcut
            cases kq with
            | zero => exact absurd HA.out (by simp [larderref03_ParseDate.j5])
            | succ kj68 =>
             have H := HA.out
             clear HA
             simp only [larderref03_ParseDate.j5] at H
             by_cases c72 : x118_68 = true
             ·subst c72
              have H1 : (some (0, 0, 0, 30, (wrap64 (10 - t220106)))) = some (r1, r2, r3, r4, r5) := by rw [if_pos rfl] at H; exact H
              clear H
              have H := H1
              clear H1
              simp only [Option.some.injEq, Prod.mk.injEq] at H
              obtain ⟨rfl, rfl, rfl, rfl, rfl⟩ := H
              have hnb73 := NB220102_220101.out
              have hnc73 := NB220101_220102.out
              have hcz74_0 : wc.cell? ⟨gb220102, 0, none⟩ = some (.int .i64 0) := (blk_cell BK220102.out 0).trans rfl
              have hcz74_1 : wc.cell? ⟨gb220102, 1, none⟩ = some (.int .i64 0) := (blk_cell BK220102.out 1).trans rfl
              have hcz74_2 : wc.cell? ⟨gb220102, 2, none⟩ = some (.int .i64 0) := (blk_cell BK220102.out 2).trans rfl
              have hfz74_0 := blk_frozen BK220102.out 0
              have hfz74_1 := blk_frozen BK220102.out 1
              have hfz74_2 := blk_frozen BK220102.out 2
              have hcz75_0 : wc.cell? ⟨gb220101, 0, none⟩ = some (.int .i64 0) := (blk_cell BK220101.out 0).trans rfl
              have hcz75_1 : wc.cell? ⟨gb220101, 1, none⟩ = some (.int .i64 0) := (blk_cell BK220101.out 1).trans rfl
              have hcz75_2 : wc.cell? ⟨gb220101, 2, none⟩ = some (.int .i64 0) := (blk_cell BK220101.out 2).trans rfl
              have hfz75_0 := blk_frozen BK220101.out 0
              have hfz75_1 := blk_frozen BK220101.out 1
              have hfz75_2 := blk_frozen BK220101.out 2
              go_wp2
              refine bodyPost_ret (results_ctt rfl _ _ gb220101 23 #[.int .i64 0, .int .i64 0, .int .i64 0] (0, 0) _ rfl (by (with_reducible repeat (first | apply blk_drewN | apply blk_drew | apply blk_alloc)); refine blk_put (cs := #[.int .i64 0, .int .i64 0, .int .i64 0]) ?_ 2 _ rfl; (with_reducible repeat (first | apply blk_drewN | apply blk_drew | apply blk_alloc)); refine blk_put (cs := #[.int .i64 0, .int .i64 0, .int .i64 0]) ?_ 1 _ rfl; (with_reducible repeat (first | apply blk_drewN | apply blk_drew | apply blk_alloc)); refine blk_put (cs := #[.int .i64 0, .int .i64 0, .int .i64 0]) ?_ 0 _ rfl; (with_reducible repeat (first | apply blk_drewN | apply blk_drew | apply blk_alloc)); exact BK220101.out) Tryd.underlying23 rfl (by kernel_rfl)) rfl ?_
              exact ⟨by first | rfl | (simp [errW_none, errW_some] <;> rfl) | (simp [*, errW_none, errW_some] <;> rfl), by repeat (first | (with_reducible first | exact HB.out | apply below_alloc | apply pw_below_drewN | apply below_drew1 | refine below_set ?_ GE220101.out | refine below_set ?_ GE220102.out) | exact HB.out)⟩
             ·replace c72 := Bool.eq_false_iff.mpr c72
              subst c72
              have H1 : ((larderref03_num.f kj68 a0 x16_65 1).bind fun t220121 => (if t220121 < 1 then (some (0, 0, 0, 30, x16_65)) else (if t220121 > 7 then (some (0, 0, 0, 30, x16_65)) else ((larderref03_FromWeek.f kj68 t220108 t220119 t220121).bind fun bt220122 => (some (bt220122.1, bt220122.2.1, bt220122.2.2.1, bt220122.2.2.2, 0)))))) = some (r1, r2, r3, r4, r5) := by rw [if_neg (show ¬ (false = true) by decide)] at H; exact H
              clear H
              have H := H1
              clear H1
              replace H := Option.bind_eq_some_iff.mp H
              obtain ⟨t220121, A760, H⟩ := H
              replace H : (if t220121 < 1 then (some (0, 0, 0, 30, x16_65)) else (if t220121 > 7 then (some (0, 0, 0, 30, x16_65)) else ((larderref03_FromWeek.f kj68 t220108 t220119 t220121).bind fun bt220122 => (some (bt220122.1, bt220122.2.1, bt220122.2.2.1, bt220122.2.2.2, 0))))) = some (r1, r2, r3, r4, r5) := H
              have A76 := Aside0.mk A760
              clear A760
              by_cases c77 : t220121 < 1
              ·rw [if_pos c77] at H
               have c77b0 : decide (t220121 < 1) = true := decide_eq_true c77
               clear c77
               simp only [Option.some.injEq, Prod.mk.injEq] at H
               obtain ⟨rfl, rfl, rfl, rfl, rfl⟩ := H
               go_wp2_with (first | ((with_reducible refine gate_callee (f := 46) rfl ?_); refine goesL_ (some 123) rfl rfl Tryd.func46 (by kernel_rfl) rfl #[.string a0, .int .i64 x16_65, .int .i64 1] rfl (by (try simp only [List.map_toArray, List.map_cons, List.map_nil]); first | done | rfl) ?_; (with_reducible refine (larderref03_num.calls kj68 a0 x16_65 1 t220121 _ A76.out).mono ?_); rintro e w' ⟨rfl, ⟨nd, rfl⟩⟩; refine ⟨_, rfl, ?_⟩; (try (rw [drewN_self wc]; generalize hq_ : World.drewN wc _ = wc; have n0_ : Aside0 (wc.heap[gb220101]? = some (.cells #[.int .i64 0, .int .i64 0, .int .i64 0] 23 (0, 0))) := ⟨by rw [← hq_]; exact (by (with_reducible repeat (first | apply blk_drewN | apply blk_drew | apply blk_alloc)); exact BK220101.out)⟩; have n1_ : Aside0 (wc.heap[gb220102]? = some (.cells #[.int .i64 0, .int .i64 0, .int .i64 0] 23 (0, 0))) := ⟨by rw [← hq_]; exact (by (with_reducible repeat (first | apply blk_drewN | apply blk_drew | apply blk_alloc)); exact BK220102.out)⟩; have n2_ : Aside0 (Below w.heap.size w wc) := ⟨by rw [← hq_]; exact (by repeat (first | (with_reducible first | exact HB.out | apply below_alloc | apply pw_below_drewN | apply below_drew1 | refine below_set ?_ GE220101.out | refine below_set ?_ GE220102.out) | exact HB.out))⟩; clear BK220101 BK220102 HB hq_; have BK220101 := n0_; have BK220102 := n1_; have HB := n2_; clear n0_ n1_ n2_)); have hnb78 := NB220102_220101.out; have hnc78 := NB220101_220102.out; have hcz79_0 : wc.cell? ⟨gb220102, 0, none⟩ = some (.int .i64 0) := (blk_cell BK220102.out 0).trans rfl; have hcz79_1 : wc.cell? ⟨gb220102, 1, none⟩ = some (.int .i64 0) := (blk_cell BK220102.out 1).trans rfl; have hcz79_2 : wc.cell? ⟨gb220102, 2, none⟩ = some (.int .i64 0) := (blk_cell BK220102.out 2).trans rfl; have hfz79_0 := blk_frozen BK220102.out 0; have hfz79_1 := blk_frozen BK220102.out 1; have hfz79_2 := blk_frozen BK220102.out 2; have hcz80_0 : wc.cell? ⟨gb220101, 0, none⟩ = some (.int .i64 0) := (blk_cell BK220101.out 0).trans rfl; have hcz80_1 : wc.cell? ⟨gb220101, 1, none⟩ = some (.int .i64 0) := (blk_cell BK220101.out 1).trans rfl; have hcz80_2 : wc.cell? ⟨gb220101, 2, none⟩ = some (.int .i64 0) := (blk_cell BK220101.out 2).trans rfl; have hfz80_0 := blk_frozen BK220101.out 0; have hfz80_1 := blk_frozen BK220101.out 1; have hfz80_2 := blk_frozen BK220101.out 2))
               refine bodyPost_ret (results_ctt rfl _ _ gb220101 23 #[.int .i64 0, .int .i64 0, .int .i64 0] (0, 0) _ rfl (by (with_reducible repeat (first | apply blk_drewN | apply blk_drew | apply blk_alloc)); refine blk_put (cs := #[.int .i64 0, .int .i64 0, .int .i64 0]) ?_ 2 _ rfl; (with_reducible repeat (first | apply blk_drewN | apply blk_drew | apply blk_alloc)); refine blk_put (cs := #[.int .i64 0, .int .i64 0, .int .i64 0]) ?_ 1 _ rfl; (with_reducible repeat (first | apply blk_drewN | apply blk_drew | apply blk_alloc)); refine blk_put (cs := #[.int .i64 0, .int .i64 0, .int .i64 0]) ?_ 0 _ rfl; (with_reducible repeat (first | apply blk_drewN | apply blk_drew | apply blk_alloc)); exact BK220101.out) Tryd.underlying23 rfl (by kernel_rfl)) rfl ?_
               exact ⟨by first | rfl | (simp [errW_none, errW_some] <;> rfl) | (simp [*, errW_none, errW_some] <;> rfl), by repeat (first | (with_reducible first | exact HB.out | apply below_alloc | apply pw_below_drewN | apply below_drew1 | refine below_set ?_ GE220101.out | refine below_set ?_ GE220102.out) | exact HB.out)⟩
              ·rw [if_neg c77] at H
               have c77b0 : decide (t220121 < 1) = false := decide_eq_false c77
               clear c77
               by_cases c81 : t220121 > 7
               ·rw [if_pos c81] at H
                have c81b0 : decide (7 < t220121) = true := decide_eq_true c81
                clear c81
                simp only [Option.some.injEq, Prod.mk.injEq] at H
                obtain ⟨rfl, rfl, rfl, rfl, rfl⟩ := H
                go_wp2_with (first | ((with_reducible refine gate_callee (f := 46) rfl ?_); refine goesL_ (some 123) rfl rfl Tryd.func46 (by kernel_rfl) rfl #[.string a0, .int .i64 x16_65, .int .i64 1] rfl (by (try simp only [List.map_toArray, List.map_cons, List.map_nil]); first | done | rfl) ?_; (with_reducible refine (larderref03_num.calls kj68 a0 x16_65 1 t220121 _ A76.out).mono ?_); rintro e w' ⟨rfl, ⟨nd, rfl⟩⟩; refine ⟨_, rfl, ?_⟩; (try (rw [drewN_self wc]; generalize hq_ : World.drewN wc _ = wc; have n0_ : Aside0 (wc.heap[gb220101]? = some (.cells #[.int .i64 0, .int .i64 0, .int .i64 0] 23 (0, 0))) := ⟨by rw [← hq_]; exact (by (with_reducible repeat (first | apply blk_drewN | apply blk_drew | apply blk_alloc)); exact BK220101.out)⟩; have n1_ : Aside0 (wc.heap[gb220102]? = some (.cells #[.int .i64 0, .int .i64 0, .int .i64 0] 23 (0, 0))) := ⟨by rw [← hq_]; exact (by (with_reducible repeat (first | apply blk_drewN | apply blk_drew | apply blk_alloc)); exact BK220102.out)⟩; have n2_ : Aside0 (Below w.heap.size w wc) := ⟨by rw [← hq_]; exact (by repeat (first | (with_reducible first | exact HB.out | apply below_alloc | apply pw_below_drewN | apply below_drew1 | refine below_set ?_ GE220101.out | refine below_set ?_ GE220102.out) | exact HB.out))⟩; clear BK220101 BK220102 HB hq_; have BK220101 := n0_; have BK220102 := n1_; have HB := n2_; clear n0_ n1_ n2_)); have hnb82 := NB220102_220101.out; have hnc82 := NB220101_220102.out; have hcz83_0 : wc.cell? ⟨gb220102, 0, none⟩ = some (.int .i64 0) := (blk_cell BK220102.out 0).trans rfl; have hcz83_1 : wc.cell? ⟨gb220102, 1, none⟩ = some (.int .i64 0) := (blk_cell BK220102.out 1).trans rfl; have hcz83_2 : wc.cell? ⟨gb220102, 2, none⟩ = some (.int .i64 0) := (blk_cell BK220102.out 2).trans rfl; have hfz83_0 := blk_frozen BK220102.out 0; have hfz83_1 := blk_frozen BK220102.out 1; have hfz83_2 := blk_frozen BK220102.out 2; have hcz84_0 : wc.cell? ⟨gb220101, 0, none⟩ = some (.int .i64 0) := (blk_cell BK220101.out 0).trans rfl; have hcz84_1 : wc.cell? ⟨gb220101, 1, none⟩ = some (.int .i64 0) := (blk_cell BK220101.out 1).trans rfl; have hcz84_2 : wc.cell? ⟨gb220101, 2, none⟩ = some (.int .i64 0) := (blk_cell BK220101.out 2).trans rfl; have hfz84_0 := blk_frozen BK220101.out 0; have hfz84_1 := blk_frozen BK220101.out 1; have hfz84_2 := blk_frozen BK220101.out 2))
                refine bodyPost_ret (results_ctt rfl _ _ gb220101 23 #[.int .i64 0, .int .i64 0, .int .i64 0] (0, 0) _ rfl (by (with_reducible repeat (first | apply blk_drewN | apply blk_drew | apply blk_alloc)); refine blk_put (cs := #[.int .i64 0, .int .i64 0, .int .i64 0]) ?_ 2 _ rfl; (with_reducible repeat (first | apply blk_drewN | apply blk_drew | apply blk_alloc)); refine blk_put (cs := #[.int .i64 0, .int .i64 0, .int .i64 0]) ?_ 1 _ rfl; (with_reducible repeat (first | apply blk_drewN | apply blk_drew | apply blk_alloc)); refine blk_put (cs := #[.int .i64 0, .int .i64 0, .int .i64 0]) ?_ 0 _ rfl; (with_reducible repeat (first | apply blk_drewN | apply blk_drew | apply blk_alloc)); exact BK220101.out) Tryd.underlying23 rfl (by kernel_rfl)) rfl ?_
                exact ⟨by first | rfl | (simp [errW_none, errW_some] <;> rfl) | (simp [*, errW_none, errW_some] <;> rfl), by repeat (first | (with_reducible first | exact HB.out | apply below_alloc | apply pw_below_drewN | apply below_drew1 | refine below_set ?_ GE220101.out | refine below_set ?_ GE220102.out) | exact HB.out)⟩
               ·rw [if_neg c81] at H
                have c81b0 : decide (7 < t220121) = false := decide_eq_false c81
                clear c81
                replace H := Option.bind_eq_some_iff.mp H
                obtain ⟨⟨t220122, t220123, t220124, t220125⟩, A850, H⟩ := H
                replace H : (some (t220122, t220123, t220124, t220125, 0)) = some (r1, r2, r3, r4, r5) := H
                have A85 := Aside0.mk A850
                clear A850
                simp only [Option.some.injEq, Prod.mk.injEq] at H
                obtain ⟨rfl, rfl, rfl, rfl, rfl⟩ := H
                go_wp2_with (first | ((with_reducible refine gate_callee (f := 46) rfl ?_); refine goesL_ (some 123) rfl rfl Tryd.func46 (by kernel_rfl) rfl #[.string a0, .int .i64 x16_65, .int .i64 1] rfl (by (try simp only [List.map_toArray, List.map_cons, List.map_nil]); first | done | rfl) ?_; (with_reducible refine (larderref03_num.calls kj68 a0 x16_65 1 t220121 _ A76.out).mono ?_); rintro e w' ⟨rfl, ⟨nd, rfl⟩⟩; refine ⟨_, rfl, ?_⟩; (try (rw [drewN_self wc]; generalize hq_ : World.drewN wc _ = wc; have n0_ : Aside0 (wc.heap[gb220101]? = some (.cells #[.int .i64 0, .int .i64 0, .int .i64 0] 23 (0, 0))) := ⟨by rw [← hq_]; exact (by (with_reducible repeat (first | apply blk_drewN | apply blk_drew | apply blk_alloc)); exact BK220101.out)⟩; have n1_ : Aside0 (wc.heap[gb220102]? = some (.cells #[.int .i64 0, .int .i64 0, .int .i64 0] 23 (0, 0))) := ⟨by rw [← hq_]; exact (by (with_reducible repeat (first | apply blk_drewN | apply blk_drew | apply blk_alloc)); exact BK220102.out)⟩; have n2_ : Aside0 (Below w.heap.size w wc) := ⟨by rw [← hq_]; exact (by repeat (first | (with_reducible first | exact HB.out | apply below_alloc | apply pw_below_drewN | apply below_drew1 | refine below_set ?_ GE220101.out | refine below_set ?_ GE220102.out) | exact HB.out))⟩; clear BK220101 BK220102 HB hq_; have BK220101 := n0_; have BK220102 := n1_; have HB := n2_; clear n0_ n1_ n2_))) | ((with_reducible refine gate_callee (f := 50) rfl ?_); refine goesL_ (some 137) rfl rfl Tryd.func50 (by kernel_rfl) rfl #[.agg #[.int .i64 t220108, .int .i64 t220119, .int .i64 t220121]] rfl (by (try simp only [List.map_toArray, List.map_cons, List.map_nil]); first | done | rfl) ?_; (with_reducible refine (larderref03_FromWeek.calls kj68 t220108 t220119 t220121 t220122 t220123 t220124 t220125 _ A85.out).mono ?_); rintro e w86 ⟨rfl, hb⟩; refine ⟨_, rfl, ?_⟩; have n0_ := Aside0.mk (blk_below (by (with_reducible repeat (first | apply blk_drewN | apply blk_drew | apply blk_alloc)); exact BK220101.out) hb); have n1_ := Aside0.mk (blk_below (by (with_reducible repeat (first | apply blk_drewN | apply blk_drew | apply blk_alloc)); exact BK220102.out) hb); have n2_ := Aside0.mk (below_step (by repeat (first | (with_reducible first | exact HB.out | apply below_alloc | apply pw_below_drewN | apply below_drew1 | refine below_set ?_ GE220101.out | refine below_set ?_ GE220102.out) | exact HB.out)) hb); clear BK220101; clear BK220102; clear HB; have BK220101 := n0_; have BK220102 := n1_; have HB := n2_; clear n0_ n1_ n2_; (try clear hb)) | ((with_reducible refine gate_dst (N := 19) rfl ?_); refine box_event ?hg (N := 19) ?hd (cs := #[.int .i64 0, .int .i64 0, .int .i64 0]) (t := 23) ?hr ?_; (case hd => rfl); (case hg => rfl); (case hr => first | (go_simp; done) | (go_simp; rfl)); intro gb220126 hg w87 hbox hb; have n0_ := Aside0.mk (blk_below (by (with_reducible repeat (first | apply blk_drewN | apply blk_drew | apply blk_alloc)); exact BK220101.out) hb); have n1_ := Aside0.mk (blk_below (by (with_reducible repeat (first | apply blk_drewN | apply blk_drew | apply blk_alloc)); exact BK220102.out) hb); have n2_ := Aside0.mk (below_step (by repeat (first | (with_reducible first | exact HB.out | apply below_alloc | apply pw_below_drewN | apply below_drew1 | refine below_set ?_ GE220101.out | refine below_set ?_ GE220102.out) | exact HB.out)) hb); have n3_ := Aside0.mk (hbox); have n4_ := Aside0.mk ((by rw [hg]; exact (below_size (by repeat (first | (with_reducible first | exact HB.out | apply below_alloc | apply pw_below_drewN | apply below_drew1 | refine below_set ?_ GE220101.out | refine below_set ?_ GE220102.out) | exact HB.out))) : w.heap.size ≤ gb220126)); have n5_ := n4_; have n6_ := Aside0.mk ((by rw [hg]; exact Nat.ne_of_lt (blk_lt (by (with_reducible repeat (first | apply blk_drewN | apply blk_drew | apply blk_alloc)); exact BK220101.out)) : gb220101 ≠ gb220126)); have n7_ := Aside0.mk n6_.out.symm; have n8_ := Aside0.mk ((by rw [hg]; exact Nat.ne_of_lt (blk_lt (by (with_reducible repeat (first | apply blk_drewN | apply blk_drew | apply blk_alloc)); exact BK220102.out)) : gb220102 ≠ gb220126)); have n9_ := Aside0.mk n8_.out.symm; clear BK220101; clear BK220102; clear HB; have BK220101 := n0_; have BK220102 := n1_; have HB := n2_; have BK220126 := n3_; have GW220126 := n4_; have GE220126 := n5_; have NB220101_220126 := n6_; have NB220126_220101 := n7_; have NB220102_220126 := n8_; have NB220126_220102 := n9_; clear n0_ n1_ n2_ n3_ n4_ n5_ n6_ n7_ n8_ n9_; clear hb hbox hg; have hnb88 := NB220126_220101.out; have hnc88 := NB220101_220126.out; have hnb89 := NB220126_220102.out; have hnc89 := NB220102_220126.out; have hcz90_0 : w87.cell? ⟨gb220126, 0, none⟩ = some (.int .i64 0) := (blk_cell BK220126.out 0).trans rfl; have hcz90_1 : w87.cell? ⟨gb220126, 1, none⟩ = some (.int .i64 0) := (blk_cell BK220126.out 1).trans rfl; have hcz90_2 : w87.cell? ⟨gb220126, 2, none⟩ = some (.int .i64 0) := (blk_cell BK220126.out 2).trans rfl; have hfz90_0 := blk_frozen BK220126.out 0; have hfz90_1 := blk_frozen BK220126.out 1; have hfz90_2 := blk_frozen BK220126.out 2; have hnb91 := NB220101_220102.out; have hnc91 := NB220102_220101.out; have hcz92_0 : w87.cell? ⟨gb220101, 0, none⟩ = some (.int .i64 0) := (blk_cell BK220101.out 0).trans rfl; have hcz92_1 : w87.cell? ⟨gb220101, 1, none⟩ = some (.int .i64 0) := (blk_cell BK220101.out 1).trans rfl; have hcz92_2 : w87.cell? ⟨gb220101, 2, none⟩ = some (.int .i64 0) := (blk_cell BK220101.out 2).trans rfl; have hfz92_0 := blk_frozen BK220101.out 0; have hfz92_1 := blk_frozen BK220101.out 1; have hfz92_2 := blk_frozen BK220101.out 2))
                refine bodyPost_ret (results_ctt rfl _ _ gb220101 23 #[.int .i64 t220122, .int .i64 t220123, .int .i64 t220124] (0, 0) _ rfl (by (with_reducible repeat (first | apply blk_drewN | apply blk_drew | apply blk_alloc)); refine blk_put (cs := #[.int .i64 t220122, .int .i64 t220123, .int .i64 0]) ?_ 2 _ rfl; (with_reducible repeat (first | apply blk_drewN | apply blk_drew | apply blk_alloc)); refine blk_put (cs := #[.int .i64 t220122, .int .i64 0, .int .i64 0]) ?_ 1 _ rfl; (with_reducible repeat (first | apply blk_drewN | apply blk_drew | apply blk_alloc)); refine blk_put (cs := #[.int .i64 0, .int .i64 0, .int .i64 0]) ?_ 0 _ rfl; (with_reducible repeat (first | apply blk_drewN | apply blk_drew | apply blk_alloc)); refine blk_far ?_ NB220101_220126.out _; (with_reducible repeat (first | apply blk_drewN | apply blk_drew | apply blk_alloc)); refine blk_far ?_ NB220101_220126.out _; (with_reducible repeat (first | apply blk_drewN | apply blk_drew | apply blk_alloc)); refine blk_far ?_ NB220101_220126.out _; (with_reducible repeat (first | apply blk_drewN | apply blk_drew | apply blk_alloc)); exact BK220101.out) Tryd.underlying23 rfl (by kernel_rfl)) rfl ?_
                exact ⟨by first | rfl | (simp [errW_none, errW_some] <;> rfl) | (simp [*, errW_none, errW_some] <;> rfl), by repeat (first | (with_reducible first | exact HB.out | apply below_alloc | apply pw_below_drewN | apply below_drew1 | refine below_set ?_ GE220101.out | refine below_set ?_ GE220102.out | refine below_set ?_ GE220126.out) | exact HB.out)⟩

end Go.Proofs.YtiklakkkgmilnaaDoor.GC
