-- written by a program (gp.py over the kit's print) for this claim
import Derived.Test.YtofafljfabgpmaaDoorGCx0
import Derived.Test.YtofafljfabgpmaaDoorGCxe23
import Derived.Test.YtofafljfabgpmaaDoorGCxf19
import Derived.Test.YtofafljfabgpmaaDoorGCxf24
import Derived.Test.YtofafljfabgpmaaDoorGCxf25
import Derived.Test.YtofafljfabgpmaaDoorGCxf27
namespace Go.Proofs.YtofafljfabgpmaaDoor.GC
open Go.RowKit Go.Proofs.YtofafljfabgpmaaDoorW.PrintWords Go.Proofs.YtofafljfabgpmaaDoorW.PrintLast Go.Proofs.YtofafljfabgpmaaDoor.Ext Go.Proofs.YtofafljfabgpmaaDoor.PCal
attribute [local go_sem] max2_int min2_int max_two min_two   -- for this text alone
set_option linter.unusedVariables false
set_option linter.unusedSimpArgs false

attribute [local go_sem high] eqA23
/-! ### larderlaw03_CalWeekly: function 9 -/
mutual
def larderlaw03_CalWeekly.j0 : Nat → Int → Bool → Int → Int → Int → Int → Int → Int → Option (Bool)
  | 0, _, _, _, _, _, _, _, _ => none
  | k + 1, x0, x86, x289000, x289001, x289002, x297000, x297001, x297002 => if x86 = true then (some false) else ((larderlaw03_at.f k (wrap64 (x0 + 1))).bind fun bt307 => ((cal_WeekOf.f bt307.1 bt307.2.1 bt307.2.2).bind fun bt310 => (if x289002 < 7 then (if bt310.2.2.1 = (wrap64 (x289002 + 1)) then (if bt310.2.1 = x289001 then (if bt310.1 = x289000 then (if x289002 = 7 then (larderlaw03_CalWeekly.j1 k (bt310.2.2.1 != 1) x289000 x289001 x289002 x297000 x297001 x297002) else (larderlaw03_CalWeekly.j1 k false x289000 x289001 x289002 x297000 x297001 x297002)) else (larderlaw03_CalWeekly.j1 k true x289000 x289001 x289002 x297000 x297001 x297002)) else (larderlaw03_CalWeekly.j1 k true x289000 x289001 x289002 x297000 x297001 x297002)) else (larderlaw03_CalWeekly.j1 k true x289000 x289001 x289002 x297000 x297001 x297002)) else (if x289002 = 7 then (larderlaw03_CalWeekly.j1 k (bt310.2.2.1 != 1) x289000 x289001 x289002 x297000 x297001 x297002) else (larderlaw03_CalWeekly.j1 k false x289000 x289001 x289002 x297000 x297001 x297002)))))
def larderlaw03_CalWeekly.j1 : Nat → Bool → Int → Int → Int → Int → Int → Int → Option (Bool)
  | 0, _, _, _, _, _, _, _ => none
  | k + 1, x128, x289000, x289001, x289002, x297000, x297001, x297002 => if x128 = true then (some false) else (if x297000 = x289000 then (some (x297001 == (wrap64 (x289001 + 1)))) else (if x297000 = (wrap64 (x289000 + 1)) then (if x297001 = 1 then (if x289001 = 52 then (some true) else (some (x289001 == 53))) else (some false)) else (some false)))
end
def larderlaw03_CalWeekly.f (k : Nat) (a0 : Int) : Option (Bool) := (larderlaw03_within.f a0 7 3652417).bind fun t279 => ((larderlaw03_at.f k t279).bind fun bt280 => ((cal_WeekOf.f bt280.1 bt280.2.1 bt280.2.2).bind fun bt284 => ((larderlaw03_at.f k (wrap64 (t279 + 7))).bind fun bt289 => ((cal_WeekOf.f bt289.1 bt289.2.1 bt289.2.2).bind fun bt292 => ((cal_FromWeek.f k bt284.1 bt284.2.1 bt284.2.2.1).bind fun bt297 => ((cal_FromWeek.f k bt284.1 bt284.2.1 4).bind fun bt302 => (if bt284.2.2.2 = 0 then (if bt292.2.2.2 = 0 then (if bt297.2.2.2 = 0 then (if bt302.2.2.2 = 0 then (if (!(bt297.1 == bt280.1) || (!(bt297.2.1 == bt280.2.1) || (!(bt297.2.2.1 == bt280.2.2)))) = true then (larderlaw03_CalWeekly.j0 k t279 true bt284.1 bt284.2.1 bt284.2.2.1 bt292.1 bt292.2.1 bt292.2.2.1) else (if bt302.1 = bt284.1 then (if bt292.2.2.1 = bt284.2.2.1 then (if bt284.2.2.1 < 1 then (larderlaw03_CalWeekly.j0 k t279 true bt284.1 bt284.2.1 bt284.2.2.1 bt292.1 bt292.2.1 bt292.2.2.1) else (larderlaw03_CalWeekly.j0 k t279 (decide (bt284.2.2.1 > 7)) bt284.1 bt284.2.1 bt284.2.2.1 bt292.1 bt292.2.1 bt292.2.2.1)) else (larderlaw03_CalWeekly.j0 k t279 true bt284.1 bt284.2.1 bt284.2.2.1 bt292.1 bt292.2.1 bt292.2.2.1)) else (larderlaw03_CalWeekly.j0 k t279 true bt284.1 bt284.2.1 bt284.2.2.1 bt292.1 bt292.2.1 bt292.2.2.1))) else (larderlaw03_CalWeekly.j0 k t279 true bt284.1 bt284.2.1 bt284.2.2.1 bt292.1 bt292.2.1 bt292.2.2.1)) else (larderlaw03_CalWeekly.j0 k t279 true bt284.1 bt284.2.1 bt284.2.2.1 bt292.1 bt292.2.1 bt292.2.2.1)) else (larderlaw03_CalWeekly.j0 k t279 true bt284.1 bt284.2.1 bt284.2.2.1 bt292.1 bt292.2.1 bt292.2.2.1)) else (larderlaw03_CalWeekly.j0 k t279 true bt284.1 bt284.2.1 bt284.2.2.1 bt292.1 bt292.2.1 bt292.2.2.1))))))))
theorem larderlaw03_CalWeekly.mono_l : ∀ k, (∀ y0 y1 y2 y3 y4 y5 y6 y7, LeO (larderlaw03_CalWeekly.j0 k y0 y1 y2 y3 y4 y5 y6 y7) (larderlaw03_CalWeekly.j0 (k + 1) y0 y1 y2 y3 y4 y5 y6 y7)) ∧ (∀ y0 y1 y2 y3 y4 y5 y6, LeO (larderlaw03_CalWeekly.j1 k y0 y1 y2 y3 y4 y5 y6) (larderlaw03_CalWeekly.j1 (k + 1) y0 y1 y2 y3 y4 y5 y6))
  | 0 => ⟨fun _ _ _ _ _ _ _ _ r h => by simp [larderlaw03_CalWeekly.j0] at h, fun _ _ _ _ _ _ _ r h => by simp [larderlaw03_CalWeekly.j1] at h⟩
  | k + 1 => by
    obtain ⟨ih0, ih1⟩ := larderlaw03_CalWeekly.mono_l k
    refine ⟨?_, ?_⟩
    · intro y0 y1 y2 y3 y4 y5 y6 y7
      unfold larderlaw03_CalWeekly.j0
      repeat' first
      | (with_reducible exact ih0 _ _ _ _ _ _ _ _)
      | (with_reducible exact ih1 _ _ _ _ _ _ _)
      | (with_reducible exact cal_FromWeek.mono _ _ _ _)
      | (with_reducible exact larderlaw03_at.mono _ _)
      | (with_reducible exact LeO.refl _)
      | (with_reducible exact LeO.none _)
      | (with_reducible refine LeO.ite ?_ ?_)
      | (with_reducible refine LeO.bind ?_ (fun _ => ?_))
      | exact ih0 _ _ _ _ _ _ _ _
      | exact ih1 _ _ _ _ _ _ _
      | exact cal_FromWeek.mono _ _ _ _
      | exact larderlaw03_at.mono _ _
      | exact LeO.none _
      | refine LeO.ite ?_ ?_
      | refine LeO.bind ?_ (fun _ => ?_)
    · intro y0 y1 y2 y3 y4 y5 y6
      unfold larderlaw03_CalWeekly.j1
      repeat' first
      | (with_reducible exact ih0 _ _ _ _ _ _ _ _)
      | (with_reducible exact ih1 _ _ _ _ _ _ _)
      | (with_reducible exact cal_FromWeek.mono _ _ _ _)
      | (with_reducible exact larderlaw03_at.mono _ _)
      | (with_reducible exact LeO.refl _)
      | (with_reducible exact LeO.none _)
      | (with_reducible refine LeO.ite ?_ ?_)
      | (with_reducible refine LeO.bind ?_ (fun _ => ?_))
      | exact ih0 _ _ _ _ _ _ _ _
      | exact ih1 _ _ _ _ _ _ _
      | exact cal_FromWeek.mono _ _ _ _
      | exact larderlaw03_at.mono _ _
      | exact LeO.none _
      | refine LeO.ite ?_ ?_
      | refine LeO.bind ?_ (fun _ => ?_)
theorem larderlaw03_CalWeekly.mono : ∀ a0 k, LeO (larderlaw03_CalWeekly.f k a0) (larderlaw03_CalWeekly.f (k + 1) a0) := by
  intro a0 k
  obtain ⟨ih0, ih1⟩ := larderlaw03_CalWeekly.mono_l k
  unfold larderlaw03_CalWeekly.f
  repeat' first
      | (with_reducible exact ih0 _ _ _ _ _ _ _ _)
      | (with_reducible exact ih1 _ _ _ _ _ _ _)
      | (with_reducible exact cal_FromWeek.mono _ _ _ _)
      | (with_reducible exact larderlaw03_at.mono _ _)
      | (with_reducible exact LeO.refl _)
      | (with_reducible exact LeO.none _)
      | (with_reducible refine LeO.ite ?_ ?_)
      | (with_reducible refine LeO.bind ?_ (fun _ => ?_))
      | exact ih0 _ _ _ _ _ _ _ _
      | exact ih1 _ _ _ _ _ _ _
      | exact cal_FromWeek.mono _ _ _ _
      | exact larderlaw03_at.mono _ _
      | exact LeO.none _
      | refine LeO.ite ?_ ?_
      | refine LeO.bind ?_ (fun _ => ?_)
set_option maxHeartbeats 8000000 in
set_option maxRecDepth 100000 in
theorem larderlaw03_CalWeekly.calls (k : Nat) (a0 : Int) (r : Bool) (w : World) (hG : GlobOk w) (h : larderlaw03_CalWeekly.f k a0 = some r) :
    Calls Tryd.prog 9 #[.int .i64 a0] w fun e w' => e = .returned (.bool r) ∧ Below w.heap.size w w' := by
  have HG := Aside0.mk hG
  clear hG
  have hu23 := Tryd.underlying23
  have hu43 := Tryd.underlying43
  have HB := Aside0.mk (Below.refl w.heap.size w)
  have H : ((larderlaw03_within.f a0 7 3652417).bind fun t279 => ((larderlaw03_at.f k t279).bind fun bt280 => ((cal_WeekOf.f bt280.1 bt280.2.1 bt280.2.2).bind fun bt284 => ((larderlaw03_at.f k (wrap64 (t279 + 7))).bind fun bt289 => ((cal_WeekOf.f bt289.1 bt289.2.1 bt289.2.2).bind fun bt292 => ((cal_FromWeek.f k bt284.1 bt284.2.1 bt284.2.2.1).bind fun bt297 => ((cal_FromWeek.f k bt284.1 bt284.2.1 4).bind fun bt302 => (if bt284.2.2.2 = 0 then (if bt292.2.2.2 = 0 then (if bt297.2.2.2 = 0 then (if bt302.2.2.2 = 0 then (if (!(bt297.1 == bt280.1) || (!(bt297.2.1 == bt280.2.1) || (!(bt297.2.2.1 == bt280.2.2)))) = true then (larderlaw03_CalWeekly.j0 k t279 true bt284.1 bt284.2.1 bt284.2.2.1 bt292.1 bt292.2.1 bt292.2.2.1) else (if bt302.1 = bt284.1 then (if bt292.2.2.1 = bt284.2.2.1 then (if bt284.2.2.1 < 1 then (larderlaw03_CalWeekly.j0 k t279 true bt284.1 bt284.2.1 bt284.2.2.1 bt292.1 bt292.2.1 bt292.2.2.1) else (larderlaw03_CalWeekly.j0 k t279 (decide (bt284.2.2.1 > 7)) bt284.1 bt284.2.1 bt284.2.2.1 bt292.1 bt292.2.1 bt292.2.2.1)) else (larderlaw03_CalWeekly.j0 k t279 true bt284.1 bt284.2.1 bt284.2.2.1 bt292.1 bt292.2.1 bt292.2.2.1)) else (larderlaw03_CalWeekly.j0 k t279 true bt284.1 bt284.2.1 bt284.2.2.1 bt292.1 bt292.2.1 bt292.2.2.1))) else (larderlaw03_CalWeekly.j0 k t279 true bt284.1 bt284.2.1 bt284.2.2.1 bt292.1 bt292.2.1 bt292.2.2.1)) else (larderlaw03_CalWeekly.j0 k t279 true bt284.1 bt284.2.1 bt284.2.2.1 bt292.1 bt292.2.1 bt292.2.2.1)) else (larderlaw03_CalWeekly.j0 k t279 true bt284.1 bt284.2.1 bt284.2.2.1 bt292.1 bt292.2.1 bt292.2.2.1)) else (larderlaw03_CalWeekly.j0 k t279 true bt284.1 bt284.2.1 bt284.2.2.1 bt292.1 bt292.2.1 bt292.2.2.1))))))))) = some r := h
  clear h
  replace H := Option.bind_eq_some_iff.mp H
  obtain ⟨t279, A20, H⟩ := H
  replace H : ((larderlaw03_at.f k t279).bind fun bt280 => ((cal_WeekOf.f bt280.1 bt280.2.1 bt280.2.2).bind fun bt284 => ((larderlaw03_at.f k (wrap64 (t279 + 7))).bind fun bt289 => ((cal_WeekOf.f bt289.1 bt289.2.1 bt289.2.2).bind fun bt292 => ((cal_FromWeek.f k bt284.1 bt284.2.1 bt284.2.2.1).bind fun bt297 => ((cal_FromWeek.f k bt284.1 bt284.2.1 4).bind fun bt302 => (if bt284.2.2.2 = 0 then (if bt292.2.2.2 = 0 then (if bt297.2.2.2 = 0 then (if bt302.2.2.2 = 0 then (if (!(bt297.1 == bt280.1) || (!(bt297.2.1 == bt280.2.1) || (!(bt297.2.2.1 == bt280.2.2)))) = true then (larderlaw03_CalWeekly.j0 k t279 true bt284.1 bt284.2.1 bt284.2.2.1 bt292.1 bt292.2.1 bt292.2.2.1) else (if bt302.1 = bt284.1 then (if bt292.2.2.1 = bt284.2.2.1 then (if bt284.2.2.1 < 1 then (larderlaw03_CalWeekly.j0 k t279 true bt284.1 bt284.2.1 bt284.2.2.1 bt292.1 bt292.2.1 bt292.2.2.1) else (larderlaw03_CalWeekly.j0 k t279 (decide (bt284.2.2.1 > 7)) bt284.1 bt284.2.1 bt284.2.2.1 bt292.1 bt292.2.1 bt292.2.2.1)) else (larderlaw03_CalWeekly.j0 k t279 true bt284.1 bt284.2.1 bt284.2.2.1 bt292.1 bt292.2.1 bt292.2.2.1)) else (larderlaw03_CalWeekly.j0 k t279 true bt284.1 bt284.2.1 bt284.2.2.1 bt292.1 bt292.2.1 bt292.2.2.1))) else (larderlaw03_CalWeekly.j0 k t279 true bt284.1 bt284.2.1 bt284.2.2.1 bt292.1 bt292.2.1 bt292.2.2.1)) else (larderlaw03_CalWeekly.j0 k t279 true bt284.1 bt284.2.1 bt284.2.2.1 bt292.1 bt292.2.1 bt292.2.2.1)) else (larderlaw03_CalWeekly.j0 k t279 true bt284.1 bt284.2.1 bt284.2.2.1 bt292.1 bt292.2.1 bt292.2.2.1)) else (larderlaw03_CalWeekly.j0 k t279 true bt284.1 bt284.2.1 bt284.2.2.1 bt292.1 bt292.2.1 bt292.2.2.1)))))))) = some r := H
  have A2 := Aside0.mk A20
  clear A20
  replace H := Option.bind_eq_some_iff.mp H
  obtain ⟨⟨t280, t281, t282⟩, A30, H⟩ := H
  replace H : ((cal_WeekOf.f t280 t281 t282).bind fun bt284 => ((larderlaw03_at.f k (wrap64 (t279 + 7))).bind fun bt289 => ((cal_WeekOf.f bt289.1 bt289.2.1 bt289.2.2).bind fun bt292 => ((cal_FromWeek.f k bt284.1 bt284.2.1 bt284.2.2.1).bind fun bt297 => ((cal_FromWeek.f k bt284.1 bt284.2.1 4).bind fun bt302 => (if bt284.2.2.2 = 0 then (if bt292.2.2.2 = 0 then (if bt297.2.2.2 = 0 then (if bt302.2.2.2 = 0 then (if (!(bt297.1 == t280) || (!(bt297.2.1 == t281) || (!(bt297.2.2.1 == t282)))) = true then (larderlaw03_CalWeekly.j0 k t279 true bt284.1 bt284.2.1 bt284.2.2.1 bt292.1 bt292.2.1 bt292.2.2.1) else (if bt302.1 = bt284.1 then (if bt292.2.2.1 = bt284.2.2.1 then (if bt284.2.2.1 < 1 then (larderlaw03_CalWeekly.j0 k t279 true bt284.1 bt284.2.1 bt284.2.2.1 bt292.1 bt292.2.1 bt292.2.2.1) else (larderlaw03_CalWeekly.j0 k t279 (decide (bt284.2.2.1 > 7)) bt284.1 bt284.2.1 bt284.2.2.1 bt292.1 bt292.2.1 bt292.2.2.1)) else (larderlaw03_CalWeekly.j0 k t279 true bt284.1 bt284.2.1 bt284.2.2.1 bt292.1 bt292.2.1 bt292.2.2.1)) else (larderlaw03_CalWeekly.j0 k t279 true bt284.1 bt284.2.1 bt284.2.2.1 bt292.1 bt292.2.1 bt292.2.2.1))) else (larderlaw03_CalWeekly.j0 k t279 true bt284.1 bt284.2.1 bt284.2.2.1 bt292.1 bt292.2.1 bt292.2.2.1)) else (larderlaw03_CalWeekly.j0 k t279 true bt284.1 bt284.2.1 bt284.2.2.1 bt292.1 bt292.2.1 bt292.2.2.1)) else (larderlaw03_CalWeekly.j0 k t279 true bt284.1 bt284.2.1 bt284.2.2.1 bt292.1 bt292.2.1 bt292.2.2.1)) else (larderlaw03_CalWeekly.j0 k t279 true bt284.1 bt284.2.1 bt284.2.2.1 bt292.1 bt292.2.1 bt292.2.2.1))))))) = some r := H
  have A3 := Aside0.mk A30
  clear A30
  replace H := Option.bind_eq_some_iff.mp H
  obtain ⟨⟨t284, t285, t286, t287⟩, A40, H⟩ := H
  replace H : ((larderlaw03_at.f k (wrap64 (t279 + 7))).bind fun bt289 => ((cal_WeekOf.f bt289.1 bt289.2.1 bt289.2.2).bind fun bt292 => ((cal_FromWeek.f k t284 t285 t286).bind fun bt297 => ((cal_FromWeek.f k t284 t285 4).bind fun bt302 => (if t287 = 0 then (if bt292.2.2.2 = 0 then (if bt297.2.2.2 = 0 then (if bt302.2.2.2 = 0 then (if (!(bt297.1 == t280) || (!(bt297.2.1 == t281) || (!(bt297.2.2.1 == t282)))) = true then (larderlaw03_CalWeekly.j0 k t279 true t284 t285 t286 bt292.1 bt292.2.1 bt292.2.2.1) else (if bt302.1 = t284 then (if bt292.2.2.1 = t286 then (if t286 < 1 then (larderlaw03_CalWeekly.j0 k t279 true t284 t285 t286 bt292.1 bt292.2.1 bt292.2.2.1) else (larderlaw03_CalWeekly.j0 k t279 (decide (t286 > 7)) t284 t285 t286 bt292.1 bt292.2.1 bt292.2.2.1)) else (larderlaw03_CalWeekly.j0 k t279 true t284 t285 t286 bt292.1 bt292.2.1 bt292.2.2.1)) else (larderlaw03_CalWeekly.j0 k t279 true t284 t285 t286 bt292.1 bt292.2.1 bt292.2.2.1))) else (larderlaw03_CalWeekly.j0 k t279 true t284 t285 t286 bt292.1 bt292.2.1 bt292.2.2.1)) else (larderlaw03_CalWeekly.j0 k t279 true t284 t285 t286 bt292.1 bt292.2.1 bt292.2.2.1)) else (larderlaw03_CalWeekly.j0 k t279 true t284 t285 t286 bt292.1 bt292.2.1 bt292.2.2.1)) else (larderlaw03_CalWeekly.j0 k t279 true t284 t285 t286 bt292.1 bt292.2.1 bt292.2.2.1)))))) = some r := H
  have A4 := Aside0.mk A40
  clear A40
  replace H := Option.bind_eq_some_iff.mp H
  obtain ⟨⟨t289, t290, t291⟩, A50, H⟩ := H
  replace H : ((cal_WeekOf.f t289 t290 t291).bind fun bt292 => ((cal_FromWeek.f k t284 t285 t286).bind fun bt297 => ((cal_FromWeek.f k t284 t285 4).bind fun bt302 => (if t287 = 0 then (if bt292.2.2.2 = 0 then (if bt297.2.2.2 = 0 then (if bt302.2.2.2 = 0 then (if (!(bt297.1 == t280) || (!(bt297.2.1 == t281) || (!(bt297.2.2.1 == t282)))) = true then (larderlaw03_CalWeekly.j0 k t279 true t284 t285 t286 bt292.1 bt292.2.1 bt292.2.2.1) else (if bt302.1 = t284 then (if bt292.2.2.1 = t286 then (if t286 < 1 then (larderlaw03_CalWeekly.j0 k t279 true t284 t285 t286 bt292.1 bt292.2.1 bt292.2.2.1) else (larderlaw03_CalWeekly.j0 k t279 (decide (t286 > 7)) t284 t285 t286 bt292.1 bt292.2.1 bt292.2.2.1)) else (larderlaw03_CalWeekly.j0 k t279 true t284 t285 t286 bt292.1 bt292.2.1 bt292.2.2.1)) else (larderlaw03_CalWeekly.j0 k t279 true t284 t285 t286 bt292.1 bt292.2.1 bt292.2.2.1))) else (larderlaw03_CalWeekly.j0 k t279 true t284 t285 t286 bt292.1 bt292.2.1 bt292.2.2.1)) else (larderlaw03_CalWeekly.j0 k t279 true t284 t285 t286 bt292.1 bt292.2.1 bt292.2.2.1)) else (larderlaw03_CalWeekly.j0 k t279 true t284 t285 t286 bt292.1 bt292.2.1 bt292.2.2.1)) else (larderlaw03_CalWeekly.j0 k t279 true t284 t285 t286 bt292.1 bt292.2.1 bt292.2.2.1))))) = some r := H
  have A5 := Aside0.mk A50
  clear A50
  replace H := Option.bind_eq_some_iff.mp H
  obtain ⟨⟨t292, t293, t294, t295⟩, A60, H⟩ := H
  replace H : ((cal_FromWeek.f k t284 t285 t286).bind fun bt297 => ((cal_FromWeek.f k t284 t285 4).bind fun bt302 => (if t287 = 0 then (if t295 = 0 then (if bt297.2.2.2 = 0 then (if bt302.2.2.2 = 0 then (if (!(bt297.1 == t280) || (!(bt297.2.1 == t281) || (!(bt297.2.2.1 == t282)))) = true then (larderlaw03_CalWeekly.j0 k t279 true t284 t285 t286 t292 t293 t294) else (if bt302.1 = t284 then (if t294 = t286 then (if t286 < 1 then (larderlaw03_CalWeekly.j0 k t279 true t284 t285 t286 t292 t293 t294) else (larderlaw03_CalWeekly.j0 k t279 (decide (t286 > 7)) t284 t285 t286 t292 t293 t294)) else (larderlaw03_CalWeekly.j0 k t279 true t284 t285 t286 t292 t293 t294)) else (larderlaw03_CalWeekly.j0 k t279 true t284 t285 t286 t292 t293 t294))) else (larderlaw03_CalWeekly.j0 k t279 true t284 t285 t286 t292 t293 t294)) else (larderlaw03_CalWeekly.j0 k t279 true t284 t285 t286 t292 t293 t294)) else (larderlaw03_CalWeekly.j0 k t279 true t284 t285 t286 t292 t293 t294)) else (larderlaw03_CalWeekly.j0 k t279 true t284 t285 t286 t292 t293 t294)))) = some r := H
  have A6 := Aside0.mk A60
  clear A60
  replace H := Option.bind_eq_some_iff.mp H
  obtain ⟨⟨t297, t298, t299, t300⟩, A70, H⟩ := H
  replace H : ((cal_FromWeek.f k t284 t285 4).bind fun bt302 => (if t287 = 0 then (if t295 = 0 then (if t300 = 0 then (if bt302.2.2.2 = 0 then (if (!(t297 == t280) || (!(t298 == t281) || (!(t299 == t282)))) = true then (larderlaw03_CalWeekly.j0 k t279 true t284 t285 t286 t292 t293 t294) else (if bt302.1 = t284 then (if t294 = t286 then (if t286 < 1 then (larderlaw03_CalWeekly.j0 k t279 true t284 t285 t286 t292 t293 t294) else (larderlaw03_CalWeekly.j0 k t279 (decide (t286 > 7)) t284 t285 t286 t292 t293 t294)) else (larderlaw03_CalWeekly.j0 k t279 true t284 t285 t286 t292 t293 t294)) else (larderlaw03_CalWeekly.j0 k t279 true t284 t285 t286 t292 t293 t294))) else (larderlaw03_CalWeekly.j0 k t279 true t284 t285 t286 t292 t293 t294)) else (larderlaw03_CalWeekly.j0 k t279 true t284 t285 t286 t292 t293 t294)) else (larderlaw03_CalWeekly.j0 k t279 true t284 t285 t286 t292 t293 t294)) else (larderlaw03_CalWeekly.j0 k t279 true t284 t285 t286 t292 t293 t294))) = some r := H
  have A7 := Aside0.mk A70
  clear A70
  replace H := Option.bind_eq_some_iff.mp H
  obtain ⟨⟨t302, t303, t304, t305⟩, A80, H⟩ := H
  replace H : (if t287 = 0 then (if t295 = 0 then (if t300 = 0 then (if t305 = 0 then (if (!(t297 == t280) || (!(t298 == t281) || (!(t299 == t282)))) = true then (larderlaw03_CalWeekly.j0 k t279 true t284 t285 t286 t292 t293 t294) else (if t302 = t284 then (if t294 = t286 then (if t286 < 1 then (larderlaw03_CalWeekly.j0 k t279 true t284 t285 t286 t292 t293 t294) else (larderlaw03_CalWeekly.j0 k t279 (decide (t286 > 7)) t284 t285 t286 t292 t293 t294)) else (larderlaw03_CalWeekly.j0 k t279 true t284 t285 t286 t292 t293 t294)) else (larderlaw03_CalWeekly.j0 k t279 true t284 t285 t286 t292 t293 t294))) else (larderlaw03_CalWeekly.j0 k t279 true t284 t285 t286 t292 t293 t294)) else (larderlaw03_CalWeekly.j0 k t279 true t284 t285 t286 t292 t293 t294)) else (larderlaw03_CalWeekly.j0 k t279 true t284 t285 t286 t292 t293 t294)) else (larderlaw03_CalWeekly.j0 k t279 true t284 t285 t286 t292 t293 t294)) = some r := H
  have A8 := Aside0.mk A80
  clear A80
  have HC9 := Aside0.mk H
  clear H
  go_enter Tryd.func9, Tryd.ntmps9
  go_upto_region 7 with (first | ((with_reducible refine gate_callee (f := 19) rfl ?_); refine goesL_ (some 15) rfl rfl Tryd.func19 (by kernel_rfl) rfl #[.int .i64 a0, .int .i64 7, .int .i64 3652417] rfl (by (try simp only [List.map_toArray, List.map_cons, List.map_nil]); first | done | rfl | (simp only [List.length_drop, List.length_take]; rfl)) ?_; (with_reducible refine (larderlaw03_within.calls a0 7 3652417 t279 _ A2.out).mono ?_); rintro e w' ⟨rfl, ⟨nd, rfl⟩⟩; refine ⟨_, rfl, ?_⟩) | ((with_reducible refine gate_callee (f := 24) rfl ?_); refine goesL_ (some 17) rfl rfl Tryd.func24 (by kernel_rfl) rfl #[.int .i64 t279] rfl (by (try simp only [List.map_toArray, List.map_cons, List.map_nil]); first | done | rfl | (simp only [List.length_drop, List.length_take]; rfl)) ?_; (with_reducible refine (larderlaw03_at.calls k t279 t280 t281 t282 _ ?side1 A3.out).mono ?_); (case side1 => refine GlobOk.below HG.out ?_; repeat (first | (with_reducible first | exact HB.out | apply below_alloc | apply pw_below_drewN | apply below_drew1) | exact HB.out)); rintro e w10 ⟨rfl, hb⟩; refine ⟨_, rfl, ?_⟩; have n0_ := Aside0.mk (below_step (by repeat (first | (with_reducible first | exact HB.out | apply below_alloc | apply pw_below_drewN | apply below_drew1) | exact HB.out)) hb); clear HB; have HB := n0_; clear n0_; (try clear hb); (try clear hb2); (try clear hk); (try clear hi)) | ((with_reducible refine gate_dst (N := 3) rfl ?_); refine box_event ?hg (N := 3) ?hd (cs := #[.int .i64 0, .int .i64 0, .int .i64 0]) (t := 23) ?hr ?_; (case hd => rfl); (case hg => rfl); (case hr => first | (go_simp; done) | (go_simp; rfl)); intro gb283 hg w11 hbox hb; have n0_ := Aside0.mk (below_step (by repeat (first | (with_reducible first | exact HB.out | apply below_alloc | apply pw_below_drewN | apply below_drew1) | exact HB.out)) hb); have n1_ := Aside0.mk (hbox); have n2_ := Aside0.mk ((by rw [hg]; exact (below_size (by repeat (first | (with_reducible first | exact HB.out | apply below_alloc | apply pw_below_drewN | apply below_drew1) | exact HB.out))) : w.heap.size ≤ gb283)); have n3_ := Aside0.mk ((by rw [hg]; exact (below_size (by repeat (first | (with_reducible first | exact HB.out | apply below_alloc | apply pw_below_drewN | apply below_drew1) | exact HB.out))) : w.heap.size ≤ gb283)); clear HB; have HB := n0_; have BK283 := n1_; have GW283 := n2_; have GE283 := n3_; clear n0_ n1_ n2_ n3_; clear hb hbox hg; have hcz12_0 : w11.cell? ⟨gb283, 0, none⟩ = some (.int .i64 0) := (blk_cell BK283.out 0).trans rfl; have hcz12_1 : w11.cell? ⟨gb283, 1, none⟩ = some (.int .i64 0) := (blk_cell BK283.out 1).trans rfl; have hcz12_2 : w11.cell? ⟨gb283, 2, none⟩ = some (.int .i64 0) := (blk_cell BK283.out 2).trans rfl; have hfz12_0 := blk_frozen BK283.out 0; have hfz12_1 := blk_frozen BK283.out 1; have hfz12_2 := blk_frozen BK283.out 2) | ((with_reducible refine gate_callee (f := 25) rfl ?_); refine goesL_ (some 20) rfl rfl Tryd.func25 (by kernel_rfl) rfl #[.agg #[.int .i64 t280, .int .i64 t281, .int .i64 t282]] rfl (by (try simp only [List.map_toArray, List.map_cons, List.map_nil]); first | done | rfl | (simp only [List.length_drop, List.length_take]; rfl)) ?_; (with_reducible refine (cal_WeekOf.calls t280 t281 t282 t284 t285 t286 t287 _ ?side1 A4.out).mono ?_); (case side1 => refine GlobOk.below HG.out ?_; repeat (first | (with_reducible first | exact HB.out | apply below_alloc | apply pw_below_drewN | apply below_drew1 | refine below_set ?_ GE283.out) | exact HB.out)); rintro e w13 ⟨rfl, hb⟩; refine ⟨_, rfl, ?_⟩; have n0_ := Aside0.mk (blk_below (g := gb283) (o := .cells #[.int .i64 t280, .int .i64 t281, .int .i64 t282] 23 (0, 0)) (by (with_reducible repeat (first | refine blk_drewN ?_ _ | refine blk_drew ?_ | refine blk_alloc ?_ _)); refine blk_put (cs := #[.int .i64 t280, .int .i64 t281, .int .i64 0]) ?_ 2 _ rfl; (with_reducible repeat (first | refine blk_drewN ?_ _ | refine blk_drew ?_ | refine blk_alloc ?_ _)); refine blk_put (cs := #[.int .i64 t280, .int .i64 0, .int .i64 0]) ?_ 1 _ rfl; (with_reducible repeat (first | refine blk_drewN ?_ _ | refine blk_drew ?_ | refine blk_alloc ?_ _)); refine blk_put (cs := #[.int .i64 0, .int .i64 0, .int .i64 0]) ?_ 0 _ rfl; (with_reducible repeat (first | refine blk_drewN ?_ _ | refine blk_drew ?_ | refine blk_alloc ?_ _)); exact BK283.out) hb); have n1_ := Aside0.mk (below_step (by repeat (first | (with_reducible first | exact HB.out | apply below_alloc | apply pw_below_drewN | apply below_drew1 | refine below_set ?_ GE283.out) | exact HB.out)) hb); clear BK283; clear HB; have BK283 := n0_; have HB := n1_; clear n0_ n1_; (try clear hb); (try clear hb2); (try clear hk); (try clear hi)) | ((with_reducible refine gate_dst (N := 4) rfl ?_); refine box_event ?hg (N := 4) ?hd (cs := #[.int .i64 0, .int .i64 0, .int .i64 0]) (t := 43) ?hr ?_; (case hd => rfl); (case hg => rfl); (case hr => first | (go_simp; done) | (go_simp; rfl)); intro gb288 hg w14 hbox hb; have n0_ := Aside0.mk (blk_below (g := gb283) (o := .cells #[.int .i64 t280, .int .i64 t281, .int .i64 t282] 23 (0, 0)) (by (with_reducible repeat (first | refine blk_drewN ?_ _ | refine blk_drew ?_ | refine blk_alloc ?_ _)); exact BK283.out) hb); have n1_ := Aside0.mk (below_step (by repeat (first | (with_reducible first | exact HB.out | apply below_alloc | apply pw_below_drewN | apply below_drew1 | refine below_set ?_ GE283.out) | exact HB.out)) hb); have n2_ := Aside0.mk (hbox); have n3_ := Aside0.mk ((by rw [hg]; exact (below_size (by repeat (first | (with_reducible first | exact HB.out | apply below_alloc | apply pw_below_drewN | apply below_drew1 | refine below_set ?_ GE283.out) | exact HB.out))) : w.heap.size ≤ gb288)); have n4_ := Aside0.mk ((by rw [hg]; exact (below_size (by repeat (first | (with_reducible first | exact HB.out | apply below_alloc | apply pw_below_drewN | apply below_drew1 | refine below_set ?_ GE283.out) | exact HB.out))) : w.heap.size ≤ gb288)); have n5_ := Aside0.mk ((by rw [hg]; exact Nat.ne_of_lt (blk_lt (g := gb283) (o := .cells #[.int .i64 t280, .int .i64 t281, .int .i64 t282] 23 (0, 0)) (by (with_reducible repeat (first | refine blk_drewN ?_ _ | refine blk_drew ?_ | refine blk_alloc ?_ _)); exact BK283.out)) : gb283 ≠ gb288)); have n6_ := Aside0.mk ((by rw [hg]; exact Nat.ne_of_gt (blk_lt (g := gb283) (o := .cells #[.int .i64 t280, .int .i64 t281, .int .i64 t282] 23 (0, 0)) (by (with_reducible repeat (first | refine blk_drewN ?_ _ | refine blk_drew ?_ | refine blk_alloc ?_ _)); exact BK283.out)) : gb288 ≠ gb283)); clear BK283; clear HB; have BK283 := n0_; have HB := n1_; have BK288 := n2_; have GW288 := n3_; have GE288 := n4_; have NB283_288 := n5_; have NB288_283 := n6_; clear n0_ n1_ n2_ n3_ n4_ n5_ n6_; clear hb hbox hg; have hnb15 := NB288_283.out; have hnc15 := NB283_288.out; have hcz16_0 : w14.cell? ⟨gb288, 0, none⟩ = some (.int .i64 0) := (blk_cell BK288.out 0).trans rfl; have hcz16_1 : w14.cell? ⟨gb288, 1, none⟩ = some (.int .i64 0) := (blk_cell BK288.out 1).trans rfl; have hcz16_2 : w14.cell? ⟨gb288, 2, none⟩ = some (.int .i64 0) := (blk_cell BK288.out 2).trans rfl; have hfz16_0 := blk_frozen BK288.out 0; have hfz16_1 := blk_frozen BK288.out 1; have hfz16_2 := blk_frozen BK288.out 2) | ((with_reducible refine gate_callee (f := 24) rfl ?_); refine goesL_ (some 26) rfl rfl Tryd.func24 (by kernel_rfl) rfl #[.int .i64 (wrap64 (t279 + 7))] rfl (by (try simp only [List.map_toArray, List.map_cons, List.map_nil]); first | done | rfl | (simp only [List.length_drop, List.length_take]; rfl)) ?_; (with_reducible refine (larderlaw03_at.calls k (wrap64 (t279 + 7)) t289 t290 t291 _ ?side1 A5.out).mono ?_); (case side1 => refine GlobOk.below HG.out ?_; repeat (first | (with_reducible first | exact HB.out | apply below_alloc | apply pw_below_drewN | apply below_drew1 | refine below_set ?_ GE283.out | refine below_set ?_ GE288.out) | exact HB.out)); rintro e w17 ⟨rfl, hb⟩; refine ⟨_, rfl, ?_⟩; have n0_ := Aside0.mk (blk_below (g := gb283) (o := .cells #[.int .i64 t280, .int .i64 t281, .int .i64 t282] 23 (0, 0)) (by (with_reducible repeat (first | refine blk_drewN ?_ _ | refine blk_drew ?_ | refine blk_alloc ?_ _)); refine blk_far ?_ NB283_288.out _; (with_reducible repeat (first | refine blk_drewN ?_ _ | refine blk_drew ?_ | refine blk_alloc ?_ _)); refine blk_far ?_ NB283_288.out _; (with_reducible repeat (first | refine blk_drewN ?_ _ | refine blk_drew ?_ | refine blk_alloc ?_ _)); refine blk_far ?_ NB283_288.out _; (with_reducible repeat (first | refine blk_drewN ?_ _ | refine blk_drew ?_ | refine blk_alloc ?_ _)); exact BK283.out) hb); have n1_ := Aside0.mk (blk_below (g := gb288) (o := .cells #[.int .i64 t284, .int .i64 t285, .int .i64 t286] 43 (0, 0)) (by (with_reducible repeat (first | refine blk_drewN ?_ _ | refine blk_drew ?_ | refine blk_alloc ?_ _)); refine blk_put (cs := #[.int .i64 t284, .int .i64 t285, .int .i64 0]) ?_ 2 _ rfl; (with_reducible repeat (first | refine blk_drewN ?_ _ | refine blk_drew ?_ | refine blk_alloc ?_ _)); refine blk_put (cs := #[.int .i64 t284, .int .i64 0, .int .i64 0]) ?_ 1 _ rfl; (with_reducible repeat (first | refine blk_drewN ?_ _ | refine blk_drew ?_ | refine blk_alloc ?_ _)); refine blk_put (cs := #[.int .i64 0, .int .i64 0, .int .i64 0]) ?_ 0 _ rfl; (with_reducible repeat (first | refine blk_drewN ?_ _ | refine blk_drew ?_ | refine blk_alloc ?_ _)); exact BK288.out) hb); have n2_ := Aside0.mk (below_step (by repeat (first | (with_reducible first | exact HB.out | apply below_alloc | apply pw_below_drewN | apply below_drew1 | refine below_set ?_ GE283.out | refine below_set ?_ GE288.out) | exact HB.out)) hb); clear BK283; clear BK288; clear HB; have BK283 := n0_; have BK288 := n1_; have HB := n2_; clear n0_ n1_ n2_; (try clear hb); (try clear hb2); (try clear hk); (try clear hi)) | ((with_reducible refine gate_callee (f := 25) rfl ?_); refine goesL_ (some 27) rfl rfl Tryd.func25 (by kernel_rfl) rfl #[.agg #[.int .i64 t289, .int .i64 t290, .int .i64 t291]] rfl (by (try simp only [List.map_toArray, List.map_cons, List.map_nil]); first | done | rfl | (simp only [List.length_drop, List.length_take]; rfl)) ?_; (with_reducible refine (cal_WeekOf.calls t289 t290 t291 t292 t293 t294 t295 _ ?side1 A6.out).mono ?_); (case side1 => refine GlobOk.below HG.out ?_; repeat (first | (with_reducible first | exact HB.out | apply below_alloc | apply pw_below_drewN | apply below_drew1 | refine below_set ?_ GE283.out | refine below_set ?_ GE288.out) | exact HB.out)); rintro e w18 ⟨rfl, hb⟩; refine ⟨_, rfl, ?_⟩; have n0_ := Aside0.mk (blk_below (g := gb283) (o := .cells #[.int .i64 t280, .int .i64 t281, .int .i64 t282] 23 (0, 0)) (by (with_reducible repeat (first | refine blk_drewN ?_ _ | refine blk_drew ?_ | refine blk_alloc ?_ _)); exact BK283.out) hb); have n1_ := Aside0.mk (blk_below (g := gb288) (o := .cells #[.int .i64 t284, .int .i64 t285, .int .i64 t286] 43 (0, 0)) (by (with_reducible repeat (first | refine blk_drewN ?_ _ | refine blk_drew ?_ | refine blk_alloc ?_ _)); exact BK288.out) hb); have n2_ := Aside0.mk (below_step (by repeat (first | (with_reducible first | exact HB.out | apply below_alloc | apply pw_below_drewN | apply below_drew1 | refine below_set ?_ GE283.out | refine below_set ?_ GE288.out) | exact HB.out)) hb); clear BK283; clear BK288; clear HB; have BK283 := n0_; have BK288 := n1_; have HB := n2_; clear n0_ n1_ n2_; (try clear hb); (try clear hb2); (try clear hk); (try clear hi)) | ((with_reducible refine gate_dst (N := 6) rfl ?_); refine box_event ?hg (N := 6) ?hd (cs := #[.int .i64 0, .int .i64 0, .int .i64 0]) (t := 43) ?hr ?_; (case hd => rfl); (case hg => rfl); (case hr => first | (go_simp; done) | (go_simp; rfl)); intro gb296 hg w19 hbox hb; have n0_ := Aside0.mk (blk_below (g := gb283) (o := .cells #[.int .i64 t280, .int .i64 t281, .int .i64 t282] 23 (0, 0)) (by (with_reducible repeat (first | refine blk_drewN ?_ _ | refine blk_drew ?_ | refine blk_alloc ?_ _)); exact BK283.out) hb); have n1_ := Aside0.mk (blk_below (g := gb288) (o := .cells #[.int .i64 t284, .int .i64 t285, .int .i64 t286] 43 (0, 0)) (by (with_reducible repeat (first | refine blk_drewN ?_ _ | refine blk_drew ?_ | refine blk_alloc ?_ _)); exact BK288.out) hb); have n2_ := Aside0.mk (below_step (by repeat (first | (with_reducible first | exact HB.out | apply below_alloc | apply pw_below_drewN | apply below_drew1 | refine below_set ?_ GE283.out | refine below_set ?_ GE288.out) | exact HB.out)) hb); have n3_ := Aside0.mk (hbox); have n4_ := Aside0.mk ((by rw [hg]; exact (below_size (by repeat (first | (with_reducible first | exact HB.out | apply below_alloc | apply pw_below_drewN | apply below_drew1 | refine below_set ?_ GE283.out | refine below_set ?_ GE288.out) | exact HB.out))) : w.heap.size ≤ gb296)); have n5_ := Aside0.mk ((by rw [hg]; exact (below_size (by repeat (first | (with_reducible first | exact HB.out | apply below_alloc | apply pw_below_drewN | apply below_drew1 | refine below_set ?_ GE283.out | refine below_set ?_ GE288.out) | exact HB.out))) : w.heap.size ≤ gb296)); have n6_ := Aside0.mk ((by rw [hg]; exact Nat.ne_of_lt (blk_lt (g := gb283) (o := .cells #[.int .i64 t280, .int .i64 t281, .int .i64 t282] 23 (0, 0)) (by (with_reducible repeat (first | refine blk_drewN ?_ _ | refine blk_drew ?_ | refine blk_alloc ?_ _)); exact BK283.out)) : gb283 ≠ gb296)); have n7_ := Aside0.mk ((by rw [hg]; exact Nat.ne_of_gt (blk_lt (g := gb283) (o := .cells #[.int .i64 t280, .int .i64 t281, .int .i64 t282] 23 (0, 0)) (by (with_reducible repeat (first | refine blk_drewN ?_ _ | refine blk_drew ?_ | refine blk_alloc ?_ _)); exact BK283.out)) : gb296 ≠ gb283)); have n8_ := Aside0.mk ((by rw [hg]; exact Nat.ne_of_lt (blk_lt (g := gb288) (o := .cells #[.int .i64 t284, .int .i64 t285, .int .i64 t286] 43 (0, 0)) (by (with_reducible repeat (first | refine blk_drewN ?_ _ | refine blk_drew ?_ | refine blk_alloc ?_ _)); exact BK288.out)) : gb288 ≠ gb296)); have n9_ := Aside0.mk ((by rw [hg]; exact Nat.ne_of_gt (blk_lt (g := gb288) (o := .cells #[.int .i64 t284, .int .i64 t285, .int .i64 t286] 43 (0, 0)) (by (with_reducible repeat (first | refine blk_drewN ?_ _ | refine blk_drew ?_ | refine blk_alloc ?_ _)); exact BK288.out)) : gb296 ≠ gb288)); clear BK283; clear BK288; clear HB; have BK283 := n0_; have BK288 := n1_; have HB := n2_; have BK296 := n3_; have GW296 := n4_; have GE296 := n5_; have NB283_296 := n6_; have NB296_283 := n7_; have NB288_296 := n8_; have NB296_288 := n9_; clear n0_ n1_ n2_ n3_ n4_ n5_ n6_ n7_ n8_ n9_; clear hb hbox hg; have hnb20 := NB296_283.out; have hnc20 := NB283_296.out; have hnb21 := NB296_288.out; have hnc21 := NB288_296.out; have hcz22_0 : w19.cell? ⟨gb296, 0, none⟩ = some (.int .i64 0) := (blk_cell BK296.out 0).trans rfl; have hcz22_1 : w19.cell? ⟨gb296, 1, none⟩ = some (.int .i64 0) := (blk_cell BK296.out 1).trans rfl; have hcz22_2 : w19.cell? ⟨gb296, 2, none⟩ = some (.int .i64 0) := (blk_cell BK296.out 2).trans rfl; have hfz22_0 := blk_frozen BK296.out 0; have hfz22_1 := blk_frozen BK296.out 1; have hfz22_2 := blk_frozen BK296.out 2; have hcz23_0 : w19.cell? ⟨gb288, 0, none⟩ = some (.int .i64 t284) := (blk_cell BK288.out 0).trans rfl; have hcz23_1 : w19.cell? ⟨gb288, 1, none⟩ = some (.int .i64 t285) := (blk_cell BK288.out 1).trans rfl; have hcz23_2 : w19.cell? ⟨gb288, 2, none⟩ = some (.int .i64 t286) := (blk_cell BK288.out 2).trans rfl; have hfz23_0 := blk_frozen BK288.out 0; have hfz23_1 := blk_frozen BK288.out 1; have hfz23_2 := blk_frozen BK288.out 2) | ((with_reducible refine gate_callee (f := 27) rfl ?_); refine goesL_ (some 32) rfl rfl Tryd.func27 (by kernel_rfl) rfl #[.agg #[.int .i64 t284, .int .i64 t285, .int .i64 t286]] rfl (by (try simp only [List.map_toArray, List.map_cons, List.map_nil]); first | done | rfl | (simp only [List.length_drop, List.length_take]; rfl)) ?_; (with_reducible refine (cal_FromWeek.calls k t284 t285 t286 t297 t298 t299 t300 _ ?side1 A7.out).mono ?_); (case side1 => refine GlobOk.below HG.out ?_; repeat (first | (with_reducible first | exact HB.out | apply below_alloc | apply pw_below_drewN | apply below_drew1 | refine below_set ?_ GE283.out | refine below_set ?_ GE288.out | refine below_set ?_ GE296.out) | exact HB.out)); rintro e w24 ⟨rfl, hb⟩; refine ⟨_, rfl, ?_⟩; have n0_ := Aside0.mk (blk_below (g := gb283) (o := .cells #[.int .i64 t280, .int .i64 t281, .int .i64 t282] 23 (0, 0)) (by (with_reducible repeat (first | refine blk_drewN ?_ _ | refine blk_drew ?_ | refine blk_alloc ?_ _)); refine blk_far ?_ NB283_296.out _; (with_reducible repeat (first | refine blk_drewN ?_ _ | refine blk_drew ?_ | refine blk_alloc ?_ _)); refine blk_far ?_ NB283_296.out _; (with_reducible repeat (first | refine blk_drewN ?_ _ | refine blk_drew ?_ | refine blk_alloc ?_ _)); refine blk_far ?_ NB283_296.out _; (with_reducible repeat (first | refine blk_drewN ?_ _ | refine blk_drew ?_ | refine blk_alloc ?_ _)); exact BK283.out) hb); have n1_ := Aside0.mk (blk_below (g := gb288) (o := .cells #[.int .i64 t284, .int .i64 t285, .int .i64 t286] 43 (0, 0)) (by (with_reducible repeat (first | refine blk_drewN ?_ _ | refine blk_drew ?_ | refine blk_alloc ?_ _)); refine blk_far ?_ NB288_296.out _; (with_reducible repeat (first | refine blk_drewN ?_ _ | refine blk_drew ?_ | refine blk_alloc ?_ _)); refine blk_far ?_ NB288_296.out _; (with_reducible repeat (first | refine blk_drewN ?_ _ | refine blk_drew ?_ | refine blk_alloc ?_ _)); refine blk_far ?_ NB288_296.out _; (with_reducible repeat (first | refine blk_drewN ?_ _ | refine blk_drew ?_ | refine blk_alloc ?_ _)); exact BK288.out) hb); have n2_ := Aside0.mk (blk_below (g := gb296) (o := .cells #[.int .i64 t292, .int .i64 t293, .int .i64 t294] 43 (0, 0)) (by (with_reducible repeat (first | refine blk_drewN ?_ _ | refine blk_drew ?_ | refine blk_alloc ?_ _)); refine blk_put (cs := #[.int .i64 t292, .int .i64 t293, .int .i64 0]) ?_ 2 _ rfl; (with_reducible repeat (first | refine blk_drewN ?_ _ | refine blk_drew ?_ | refine blk_alloc ?_ _)); refine blk_put (cs := #[.int .i64 t292, .int .i64 0, .int .i64 0]) ?_ 1 _ rfl; (with_reducible repeat (first | refine blk_drewN ?_ _ | refine blk_drew ?_ | refine blk_alloc ?_ _)); refine blk_put (cs := #[.int .i64 0, .int .i64 0, .int .i64 0]) ?_ 0 _ rfl; (with_reducible repeat (first | refine blk_drewN ?_ _ | refine blk_drew ?_ | refine blk_alloc ?_ _)); exact BK296.out) hb); have n3_ := Aside0.mk (below_step (by repeat (first | (with_reducible first | exact HB.out | apply below_alloc | apply pw_below_drewN | apply below_drew1 | refine below_set ?_ GE283.out | refine below_set ?_ GE288.out | refine below_set ?_ GE296.out) | exact HB.out)) hb); clear BK283; clear BK288; clear BK296; clear HB; have BK283 := n0_; have BK288 := n1_; have BK296 := n2_; have HB := n3_; clear n0_ n1_ n2_ n3_; (try clear hb); (try clear hb2); (try clear hk); (try clear hi)) | ((with_reducible refine gate_dst (N := 8) rfl ?_); refine box_event ?hg (N := 8) ?hd (cs := #[.int .i64 0, .int .i64 0, .int .i64 0]) (t := 23) ?hr ?_; (case hd => rfl); (case hg => rfl); (case hr => first | (go_simp; done) | (go_simp; rfl)); intro gb301 hg w25 hbox hb; have n0_ := Aside0.mk (blk_below (g := gb283) (o := .cells #[.int .i64 t280, .int .i64 t281, .int .i64 t282] 23 (0, 0)) (by (with_reducible repeat (first | refine blk_drewN ?_ _ | refine blk_drew ?_ | refine blk_alloc ?_ _)); exact BK283.out) hb); have n1_ := Aside0.mk (blk_below (g := gb288) (o := .cells #[.int .i64 t284, .int .i64 t285, .int .i64 t286] 43 (0, 0)) (by (with_reducible repeat (first | refine blk_drewN ?_ _ | refine blk_drew ?_ | refine blk_alloc ?_ _)); exact BK288.out) hb); have n2_ := Aside0.mk (blk_below (g := gb296) (o := .cells #[.int .i64 t292, .int .i64 t293, .int .i64 t294] 43 (0, 0)) (by (with_reducible repeat (first | refine blk_drewN ?_ _ | refine blk_drew ?_ | refine blk_alloc ?_ _)); exact BK296.out) hb); have n3_ := Aside0.mk (below_step (by repeat (first | (with_reducible first | exact HB.out | apply below_alloc | apply pw_below_drewN | apply below_drew1 | refine below_set ?_ GE283.out | refine below_set ?_ GE288.out | refine below_set ?_ GE296.out) | exact HB.out)) hb); have n4_ := Aside0.mk (hbox); have n5_ := Aside0.mk ((by rw [hg]; exact (below_size (by repeat (first | (with_reducible first | exact HB.out | apply below_alloc | apply pw_below_drewN | apply below_drew1 | refine below_set ?_ GE283.out | refine below_set ?_ GE288.out | refine below_set ?_ GE296.out) | exact HB.out))) : w.heap.size ≤ gb301)); have n6_ := Aside0.mk ((by rw [hg]; exact (below_size (by repeat (first | (with_reducible first | exact HB.out | apply below_alloc | apply pw_below_drewN | apply below_drew1 | refine below_set ?_ GE283.out | refine below_set ?_ GE288.out | refine below_set ?_ GE296.out) | exact HB.out))) : w.heap.size ≤ gb301)); have n7_ := Aside0.mk ((by rw [hg]; exact Nat.ne_of_lt (blk_lt (g := gb283) (o := .cells #[.int .i64 t280, .int .i64 t281, .int .i64 t282] 23 (0, 0)) (by (with_reducible repeat (first | refine blk_drewN ?_ _ | refine blk_drew ?_ | refine blk_alloc ?_ _)); exact BK283.out)) : gb283 ≠ gb301)); have n8_ := Aside0.mk ((by rw [hg]; exact Nat.ne_of_gt (blk_lt (g := gb283) (o := .cells #[.int .i64 t280, .int .i64 t281, .int .i64 t282] 23 (0, 0)) (by (with_reducible repeat (first | refine blk_drewN ?_ _ | refine blk_drew ?_ | refine blk_alloc ?_ _)); exact BK283.out)) : gb301 ≠ gb283)); have n9_ := Aside0.mk ((by rw [hg]; exact Nat.ne_of_lt (blk_lt (g := gb288) (o := .cells #[.int .i64 t284, .int .i64 t285, .int .i64 t286] 43 (0, 0)) (by (with_reducible repeat (first | refine blk_drewN ?_ _ | refine blk_drew ?_ | refine blk_alloc ?_ _)); exact BK288.out)) : gb288 ≠ gb301)); have n10_ := Aside0.mk ((by rw [hg]; exact Nat.ne_of_gt (blk_lt (g := gb288) (o := .cells #[.int .i64 t284, .int .i64 t285, .int .i64 t286] 43 (0, 0)) (by (with_reducible repeat (first | refine blk_drewN ?_ _ | refine blk_drew ?_ | refine blk_alloc ?_ _)); exact BK288.out)) : gb301 ≠ gb288)); have n11_ := Aside0.mk ((by rw [hg]; exact Nat.ne_of_lt (blk_lt (g := gb296) (o := .cells #[.int .i64 t292, .int .i64 t293, .int .i64 t294] 43 (0, 0)) (by (with_reducible repeat (first | refine blk_drewN ?_ _ | refine blk_drew ?_ | refine blk_alloc ?_ _)); exact BK296.out)) : gb296 ≠ gb301)); have n12_ := Aside0.mk ((by rw [hg]; exact Nat.ne_of_gt (blk_lt (g := gb296) (o := .cells #[.int .i64 t292, .int .i64 t293, .int .i64 t294] 43 (0, 0)) (by (with_reducible repeat (first | refine blk_drewN ?_ _ | refine blk_drew ?_ | refine blk_alloc ?_ _)); exact BK296.out)) : gb301 ≠ gb296)); clear BK283; clear BK288; clear BK296; clear HB; have BK283 := n0_; have BK288 := n1_; have BK296 := n2_; have HB := n3_; have BK301 := n4_; have GW301 := n5_; have GE301 := n6_; have NB283_301 := n7_; have NB301_283 := n8_; have NB288_301 := n9_; have NB301_288 := n10_; have NB296_301 := n11_; have NB301_296 := n12_; clear n0_ n1_ n2_ n3_ n4_ n5_ n6_ n7_ n8_ n9_ n10_ n11_ n12_; clear hb hbox hg; have hnb26 := NB301_283.out; have hnc26 := NB283_301.out; have hnb27 := NB301_288.out; have hnc27 := NB288_301.out; have hnb28 := NB301_296.out; have hnc28 := NB296_301.out; have hcz29_0 : w25.cell? ⟨gb301, 0, none⟩ = some (.int .i64 0) := (blk_cell BK301.out 0).trans rfl; have hcz29_1 : w25.cell? ⟨gb301, 1, none⟩ = some (.int .i64 0) := (blk_cell BK301.out 1).trans rfl; have hcz29_2 : w25.cell? ⟨gb301, 2, none⟩ = some (.int .i64 0) := (blk_cell BK301.out 2).trans rfl; have hfz29_0 := blk_frozen BK301.out 0; have hfz29_1 := blk_frozen BK301.out 1; have hfz29_2 := blk_frozen BK301.out 2; have hcz30_0 : w25.cell? ⟨gb288, 0, none⟩ = some (.int .i64 t284) := (blk_cell BK288.out 0).trans rfl; have hcz30_1 : w25.cell? ⟨gb288, 1, none⟩ = some (.int .i64 t285) := (blk_cell BK288.out 1).trans rfl; have hcz30_2 : w25.cell? ⟨gb288, 2, none⟩ = some (.int .i64 t286) := (blk_cell BK288.out 2).trans rfl; have hfz30_0 := blk_frozen BK288.out 0; have hfz30_1 := blk_frozen BK288.out 1; have hfz30_2 := blk_frozen BK288.out 2) | ((with_reducible refine gate_callee (f := 27) rfl ?_); refine goesL_ (some 41) rfl rfl Tryd.func27 (by kernel_rfl) rfl #[.agg #[.int .i64 t284, .int .i64 t285, .int .i64 4]] rfl (by (try simp only [List.map_toArray, List.map_cons, List.map_nil]); first | done | rfl | (simp only [List.length_drop, List.length_take]; rfl)) ?_; (with_reducible refine (cal_FromWeek.calls k t284 t285 4 t302 t303 t304 t305 _ ?side1 A8.out).mono ?_); (case side1 => refine GlobOk.below HG.out ?_; repeat (first | (with_reducible first | exact HB.out | apply below_alloc | apply pw_below_drewN | apply below_drew1 | refine below_set ?_ GE283.out | refine below_set ?_ GE288.out | refine below_set ?_ GE296.out | refine below_set ?_ GE301.out) | exact HB.out)); rintro e w31 ⟨rfl, hb⟩; refine ⟨_, rfl, ?_⟩; have n0_ := Aside0.mk (blk_below (g := gb283) (o := .cells #[.int .i64 t280, .int .i64 t281, .int .i64 t282] 23 (0, 0)) (by (with_reducible repeat (first | refine blk_drewN ?_ _ | refine blk_drew ?_ | refine blk_alloc ?_ _)); refine blk_far ?_ NB283_301.out _; (with_reducible repeat (first | refine blk_drewN ?_ _ | refine blk_drew ?_ | refine blk_alloc ?_ _)); refine blk_far ?_ NB283_301.out _; (with_reducible repeat (first | refine blk_drewN ?_ _ | refine blk_drew ?_ | refine blk_alloc ?_ _)); refine blk_far ?_ NB283_301.out _; (with_reducible repeat (first | refine blk_drewN ?_ _ | refine blk_drew ?_ | refine blk_alloc ?_ _)); exact BK283.out) hb); have n1_ := Aside0.mk (blk_below (g := gb288) (o := .cells #[.int .i64 t284, .int .i64 t285, .int .i64 t286] 43 (0, 0)) (by (with_reducible repeat (first | refine blk_drewN ?_ _ | refine blk_drew ?_ | refine blk_alloc ?_ _)); refine blk_far ?_ NB288_301.out _; (with_reducible repeat (first | refine blk_drewN ?_ _ | refine blk_drew ?_ | refine blk_alloc ?_ _)); refine blk_far ?_ NB288_301.out _; (with_reducible repeat (first | refine blk_drewN ?_ _ | refine blk_drew ?_ | refine blk_alloc ?_ _)); refine blk_far ?_ NB288_301.out _; (with_reducible repeat (first | refine blk_drewN ?_ _ | refine blk_drew ?_ | refine blk_alloc ?_ _)); exact BK288.out) hb); have n2_ := Aside0.mk (blk_below (g := gb296) (o := .cells #[.int .i64 t292, .int .i64 t293, .int .i64 t294] 43 (0, 0)) (by (with_reducible repeat (first | refine blk_drewN ?_ _ | refine blk_drew ?_ | refine blk_alloc ?_ _)); refine blk_far ?_ NB296_301.out _; (with_reducible repeat (first | refine blk_drewN ?_ _ | refine blk_drew ?_ | refine blk_alloc ?_ _)); refine blk_far ?_ NB296_301.out _; (with_reducible repeat (first | refine blk_drewN ?_ _ | refine blk_drew ?_ | refine blk_alloc ?_ _)); refine blk_far ?_ NB296_301.out _; (with_reducible repeat (first | refine blk_drewN ?_ _ | refine blk_drew ?_ | refine blk_alloc ?_ _)); exact BK296.out) hb); have n3_ := Aside0.mk (blk_below (g := gb301) (o := .cells #[.int .i64 t297, .int .i64 t298, .int .i64 t299] 23 (0, 0)) (by (with_reducible repeat (first | refine blk_drewN ?_ _ | refine blk_drew ?_ | refine blk_alloc ?_ _)); refine blk_put (cs := #[.int .i64 t297, .int .i64 t298, .int .i64 0]) ?_ 2 _ rfl; (with_reducible repeat (first | refine blk_drewN ?_ _ | refine blk_drew ?_ | refine blk_alloc ?_ _)); refine blk_put (cs := #[.int .i64 t297, .int .i64 0, .int .i64 0]) ?_ 1 _ rfl; (with_reducible repeat (first | refine blk_drewN ?_ _ | refine blk_drew ?_ | refine blk_alloc ?_ _)); refine blk_put (cs := #[.int .i64 0, .int .i64 0, .int .i64 0]) ?_ 0 _ rfl; (with_reducible repeat (first | refine blk_drewN ?_ _ | refine blk_drew ?_ | refine blk_alloc ?_ _)); exact BK301.out) hb); have n4_ := Aside0.mk (below_step (by repeat (first | (with_reducible first | exact HB.out | apply below_alloc | apply pw_below_drewN | apply below_drew1 | refine below_set ?_ GE283.out | refine below_set ?_ GE288.out | refine below_set ?_ GE296.out | refine below_set ?_ GE301.out) | exact HB.out)) hb); clear BK283; clear BK288; clear BK296; clear BK301; clear HB; have BK283 := n0_; have BK288 := n1_; have BK296 := n2_; have BK301 := n3_; have HB := n4_; clear n0_ n1_ n2_ n3_ n4_; (try clear hb); (try clear hb2); (try clear hk); (try clear hi)) | ((with_reducible refine gate_dst (N := 10) rfl ?_); refine box_event ?hg (N := 10) ?hd (cs := #[.int .i64 0, .int .i64 0, .int .i64 0]) (t := 23) ?hr ?_; (case hd => rfl); (case hg => rfl); (case hr => first | (go_simp; done) | (go_simp; rfl)); intro gb306 hg w32 hbox hb; have n0_ := Aside0.mk (blk_below (g := gb283) (o := .cells #[.int .i64 t280, .int .i64 t281, .int .i64 t282] 23 (0, 0)) (by (with_reducible repeat (first | refine blk_drewN ?_ _ | refine blk_drew ?_ | refine blk_alloc ?_ _)); exact BK283.out) hb); have n1_ := Aside0.mk (blk_below (g := gb288) (o := .cells #[.int .i64 t284, .int .i64 t285, .int .i64 t286] 43 (0, 0)) (by (with_reducible repeat (first | refine blk_drewN ?_ _ | refine blk_drew ?_ | refine blk_alloc ?_ _)); exact BK288.out) hb); have n2_ := Aside0.mk (blk_below (g := gb296) (o := .cells #[.int .i64 t292, .int .i64 t293, .int .i64 t294] 43 (0, 0)) (by (with_reducible repeat (first | refine blk_drewN ?_ _ | refine blk_drew ?_ | refine blk_alloc ?_ _)); exact BK296.out) hb); have n3_ := Aside0.mk (blk_below (g := gb301) (o := .cells #[.int .i64 t297, .int .i64 t298, .int .i64 t299] 23 (0, 0)) (by (with_reducible repeat (first | refine blk_drewN ?_ _ | refine blk_drew ?_ | refine blk_alloc ?_ _)); exact BK301.out) hb); have n4_ := Aside0.mk (below_step (by repeat (first | (with_reducible first | exact HB.out | apply below_alloc | apply pw_below_drewN | apply below_drew1 | refine below_set ?_ GE283.out | refine below_set ?_ GE288.out | refine below_set ?_ GE296.out | refine below_set ?_ GE301.out) | exact HB.out)) hb); have n5_ := Aside0.mk (hbox); have n6_ := Aside0.mk ((by rw [hg]; exact (below_size (by repeat (first | (with_reducible first | exact HB.out | apply below_alloc | apply pw_below_drewN | apply below_drew1 | refine below_set ?_ GE283.out | refine below_set ?_ GE288.out | refine below_set ?_ GE296.out | refine below_set ?_ GE301.out) | exact HB.out))) : w.heap.size ≤ gb306)); have n7_ := Aside0.mk ((by rw [hg]; exact (below_size (by repeat (first | (with_reducible first | exact HB.out | apply below_alloc | apply pw_below_drewN | apply below_drew1 | refine below_set ?_ GE283.out | refine below_set ?_ GE288.out | refine below_set ?_ GE296.out | refine below_set ?_ GE301.out) | exact HB.out))) : w.heap.size ≤ gb306)); have n8_ := Aside0.mk ((by rw [hg]; exact Nat.ne_of_lt (blk_lt (g := gb283) (o := .cells #[.int .i64 t280, .int .i64 t281, .int .i64 t282] 23 (0, 0)) (by (with_reducible repeat (first | refine blk_drewN ?_ _ | refine blk_drew ?_ | refine blk_alloc ?_ _)); exact BK283.out)) : gb283 ≠ gb306)); have n9_ := Aside0.mk ((by rw [hg]; exact Nat.ne_of_gt (blk_lt (g := gb283) (o := .cells #[.int .i64 t280, .int .i64 t281, .int .i64 t282] 23 (0, 0)) (by (with_reducible repeat (first | refine blk_drewN ?_ _ | refine blk_drew ?_ | refine blk_alloc ?_ _)); exact BK283.out)) : gb306 ≠ gb283)); have n10_ := Aside0.mk ((by rw [hg]; exact Nat.ne_of_lt (blk_lt (g := gb288) (o := .cells #[.int .i64 t284, .int .i64 t285, .int .i64 t286] 43 (0, 0)) (by (with_reducible repeat (first | refine blk_drewN ?_ _ | refine blk_drew ?_ | refine blk_alloc ?_ _)); exact BK288.out)) : gb288 ≠ gb306)); have n11_ := Aside0.mk ((by rw [hg]; exact Nat.ne_of_gt (blk_lt (g := gb288) (o := .cells #[.int .i64 t284, .int .i64 t285, .int .i64 t286] 43 (0, 0)) (by (with_reducible repeat (first | refine blk_drewN ?_ _ | refine blk_drew ?_ | refine blk_alloc ?_ _)); exact BK288.out)) : gb306 ≠ gb288)); have n12_ := Aside0.mk ((by rw [hg]; exact Nat.ne_of_lt (blk_lt (g := gb296) (o := .cells #[.int .i64 t292, .int .i64 t293, .int .i64 t294] 43 (0, 0)) (by (with_reducible repeat (first | refine blk_drewN ?_ _ | refine blk_drew ?_ | refine blk_alloc ?_ _)); exact BK296.out)) : gb296 ≠ gb306)); have n13_ := Aside0.mk ((by rw [hg]; exact Nat.ne_of_gt (blk_lt (g := gb296) (o := .cells #[.int .i64 t292, .int .i64 t293, .int .i64 t294] 43 (0, 0)) (by (with_reducible repeat (first | refine blk_drewN ?_ _ | refine blk_drew ?_ | refine blk_alloc ?_ _)); exact BK296.out)) : gb306 ≠ gb296)); have n14_ := Aside0.mk ((by rw [hg]; exact Nat.ne_of_lt (blk_lt (g := gb301) (o := .cells #[.int .i64 t297, .int .i64 t298, .int .i64 t299] 23 (0, 0)) (by (with_reducible repeat (first | refine blk_drewN ?_ _ | refine blk_drew ?_ | refine blk_alloc ?_ _)); exact BK301.out)) : gb301 ≠ gb306)); have n15_ := Aside0.mk ((by rw [hg]; exact Nat.ne_of_gt (blk_lt (g := gb301) (o := .cells #[.int .i64 t297, .int .i64 t298, .int .i64 t299] 23 (0, 0)) (by (with_reducible repeat (first | refine blk_drewN ?_ _ | refine blk_drew ?_ | refine blk_alloc ?_ _)); exact BK301.out)) : gb306 ≠ gb301)); clear BK283; clear BK288; clear BK296; clear BK301; clear HB; have BK283 := n0_; have BK288 := n1_; have BK296 := n2_; have BK301 := n3_; have HB := n4_; have BK306 := n5_; have GW306 := n6_; have GE306 := n7_; have NB283_306 := n8_; have NB306_283 := n9_; have NB288_306 := n10_; have NB306_288 := n11_; have NB296_306 := n12_; have NB306_296 := n13_; have NB301_306 := n14_; have NB306_301 := n15_; clear n0_ n1_ n2_ n3_ n4_ n5_ n6_ n7_ n8_ n9_ n10_ n11_ n12_ n13_ n14_ n15_; clear hb hbox hg; have hnb33 := NB306_283.out; have hnc33 := NB283_306.out; have hnb34 := NB306_288.out; have hnc34 := NB288_306.out; have hnb35 := NB306_296.out; have hnc35 := NB296_306.out; have hnb36 := NB306_301.out; have hnc36 := NB301_306.out; have hcz37_0 : w32.cell? ⟨gb306, 0, none⟩ = some (.int .i64 0) := (blk_cell BK306.out 0).trans rfl; have hcz37_1 : w32.cell? ⟨gb306, 1, none⟩ = some (.int .i64 0) := (blk_cell BK306.out 1).trans rfl; have hcz37_2 : w32.cell? ⟨gb306, 2, none⟩ = some (.int .i64 0) := (blk_cell BK306.out 2).trans rfl; have hfz37_0 := blk_frozen BK306.out 0; have hfz37_1 := blk_frozen BK306.out 1; have hfz37_2 := blk_frozen BK306.out 2))
  (try simp only [Act.put, List.setIfInBounds_toArray, List.set_cons_zero, List.set_cons_succ])
  go_cut [86] (fun v86 wc => ∃ (kq : Nat) (x86_8 : Bool), v86 = .bool x86_8 ∧ Aside0 (larderlaw03_CalWeekly.j0 kq t279 x86_8 t284 t285 t286 t292 t293 t294 = some r) ∧ Aside0 (kq ≤ k) ∧ Aside0 (wc.heap[gb283]? = some (.cells #[.int .i64 t280, .int .i64 t281, .int .i64 t282] 23 (0, 0))) ∧ Aside0 (wc.heap[gb288]? = some (.cells #[.int .i64 t284, .int .i64 t285, .int .i64 t286] 43 (0, 0))) ∧ Aside0 (wc.heap[gb296]? = some (.cells #[.int .i64 t292, .int .i64 t293, .int .i64 t294] 43 (0, 0))) ∧ Aside0 (wc.heap[gb301]? = some (.cells #[.int .i64 t297, .int .i64 t298, .int .i64 t299] 23 (0, 0))) ∧ Aside0 (wc.heap[gb306]? = some (.cells #[.int .i64 t302, .int .i64 t303, .int .i64 t304] 23 (0, 0))) ∧ Aside0 (Below w.heap.size w wc))
  case first =>
    have H := HC9.out
    clear HC9
    by_cases c38 : t287 = 0
    · rw [if_pos c38] at H
      have c38b0 : (t287 == 0) = true := beq_iff_eq.mpr c38
      have c38b1 : (t287 != 0) = false := bne_eq_false_iff_eq.mpr c38
      clear c38
      (first | rw [c38b0] | (simp only [i64_w, i32_w]; rw [c38b0]) | skip)
      by_cases c39 : t295 = 0
      · rw [if_pos c39] at H
        have c39b0 : (t295 == 0) = true := beq_iff_eq.mpr c39
        have c39b1 : (t295 != 0) = false := bne_eq_false_iff_eq.mpr c39
        clear c39
        by_cases c40 : t300 = 0
        · rw [if_pos c40] at H
          have c40b0 : (t300 == 0) = true := beq_iff_eq.mpr c40
          have c40b1 : (t300 != 0) = false := bne_eq_false_iff_eq.mpr c40
          clear c40
          by_cases c41 : t305 = 0
          · rw [if_pos c41] at H
            have c41b0 : (t305 == 0) = true := beq_iff_eq.mpr c41
            have c41b1 : (t305 != 0) = false := bne_eq_false_iff_eq.mpr c41
            clear c41
            by_cases c42 : (!(t297 == t280) || (!(t298 == t281) || (!(t299 == t282)))) = true
            · rw [if_pos c42] at H
              have c42b0 : (!(t297 == t280) || (!(t298 == t281) || (!(t299 == t282)))) = true := c42
              clear c42
              have H' := Aside0.mk H
              clear H
              have hnb43 := NB301_283.out
              have hnc43 := NB283_301.out
              have hnb44 := NB301_288.out
              have hnc44 := NB288_301.out
              have hnb45 := NB301_296.out
              have hnc45 := NB296_301.out
              have hnb46 := NB301_306.out
              have hnc46 := NB306_301.out
              have hcz47_0 : w32.cell? ⟨gb301, 0, none⟩ = some (.int .i64 t297) := (blk_cell BK301.out 0).trans rfl
              have hcz47_1 : w32.cell? ⟨gb301, 1, none⟩ = some (.int .i64 t298) := (blk_cell BK301.out 1).trans rfl
              have hcz47_2 : w32.cell? ⟨gb301, 2, none⟩ = some (.int .i64 t299) := (blk_cell BK301.out 2).trans rfl
              have hfz47_0 := blk_frozen BK301.out 0
              have hfz47_1 := blk_frozen BK301.out 1
              have hfz47_2 := blk_frozen BK301.out 2
              have hnb48 := NB283_288.out
              have hnc48 := NB288_283.out
              have hnb49 := NB283_296.out
              have hnc49 := NB296_283.out
              have hnb50 := NB283_306.out
              have hnc50 := NB306_283.out
              have hcz51_0 : w32.cell? ⟨gb283, 0, none⟩ = some (.int .i64 t280) := (blk_cell BK283.out 0).trans rfl
              have hcz51_1 : w32.cell? ⟨gb283, 1, none⟩ = some (.int .i64 t281) := (blk_cell BK283.out 1).trans rfl
              have hcz51_2 : w32.cell? ⟨gb283, 2, none⟩ = some (.int .i64 t282) := (blk_cell BK283.out 2).trans rfl
              have hfz51_0 := blk_frozen BK283.out 0
              have hfz51_1 := blk_frozen BK283.out 1
              have hfz51_2 := blk_frozen BK283.out 2
              go_wp2
              go_meet
              case rel => exact ⟨_, (true), (by first | rfl | (simp; done) | (simp [*]; done)), H', ⟨by first | omega | exact Nat.le_refl _⟩, ⟨by (with_reducible repeat (first | refine blk_drewN ?_ _ | refine blk_drew ?_ | refine blk_alloc ?_ _)); refine blk_far ?_ NB283_306.out _; (with_reducible repeat (first | refine blk_drewN ?_ _ | refine blk_drew ?_ | refine blk_alloc ?_ _)); refine blk_far ?_ NB283_306.out _; (with_reducible repeat (first | refine blk_drewN ?_ _ | refine blk_drew ?_ | refine blk_alloc ?_ _)); refine blk_far ?_ NB283_306.out _; (with_reducible repeat (first | refine blk_drewN ?_ _ | refine blk_drew ?_ | refine blk_alloc ?_ _)); exact BK283.out⟩, ⟨by (with_reducible repeat (first | refine blk_drewN ?_ _ | refine blk_drew ?_ | refine blk_alloc ?_ _)); refine blk_far ?_ NB288_306.out _; (with_reducible repeat (first | refine blk_drewN ?_ _ | refine blk_drew ?_ | refine blk_alloc ?_ _)); refine blk_far ?_ NB288_306.out _; (with_reducible repeat (first | refine blk_drewN ?_ _ | refine blk_drew ?_ | refine blk_alloc ?_ _)); refine blk_far ?_ NB288_306.out _; (with_reducible repeat (first | refine blk_drewN ?_ _ | refine blk_drew ?_ | refine blk_alloc ?_ _)); exact BK288.out⟩, ⟨by (with_reducible repeat (first | refine blk_drewN ?_ _ | refine blk_drew ?_ | refine blk_alloc ?_ _)); refine blk_far ?_ NB296_306.out _; (with_reducible repeat (first | refine blk_drewN ?_ _ | refine blk_drew ?_ | refine blk_alloc ?_ _)); refine blk_far ?_ NB296_306.out _; (with_reducible repeat (first | refine blk_drewN ?_ _ | refine blk_drew ?_ | refine blk_alloc ?_ _)); refine blk_far ?_ NB296_306.out _; (with_reducible repeat (first | refine blk_drewN ?_ _ | refine blk_drew ?_ | refine blk_alloc ?_ _)); exact BK296.out⟩, ⟨by (with_reducible repeat (first | refine blk_drewN ?_ _ | refine blk_drew ?_ | refine blk_alloc ?_ _)); refine blk_far ?_ NB301_306.out _; (with_reducible repeat (first | refine blk_drewN ?_ _ | refine blk_drew ?_ | refine blk_alloc ?_ _)); refine blk_far ?_ NB301_306.out _; (with_reducible repeat (first | refine blk_drewN ?_ _ | refine blk_drew ?_ | refine blk_alloc ?_ _)); refine blk_far ?_ NB301_306.out _; (with_reducible repeat (first | refine blk_drewN ?_ _ | refine blk_drew ?_ | refine blk_alloc ?_ _)); exact BK301.out⟩, ⟨by (with_reducible repeat (first | refine blk_drewN ?_ _ | refine blk_drew ?_ | refine blk_alloc ?_ _)); refine blk_put (cs := #[.int .i64 t302, .int .i64 t303, .int .i64 0]) ?_ 2 _ rfl; (with_reducible repeat (first | refine blk_drewN ?_ _ | refine blk_drew ?_ | refine blk_alloc ?_ _)); refine blk_put (cs := #[.int .i64 t302, .int .i64 0, .int .i64 0]) ?_ 1 _ rfl; (with_reducible repeat (first | refine blk_drewN ?_ _ | refine blk_drew ?_ | refine blk_alloc ?_ _)); refine blk_put (cs := #[.int .i64 0, .int .i64 0, .int .i64 0]) ?_ 0 _ rfl; (with_reducible repeat (first | refine blk_drewN ?_ _ | refine blk_drew ?_ | refine blk_alloc ?_ _)); exact BK306.out⟩, ⟨by repeat (first | (with_reducible first | exact HB.out | apply below_alloc | apply pw_below_drewN | apply below_drew1 | refine below_set ?_ GE283.out | refine below_set ?_ GE288.out | refine below_set ?_ GE296.out | refine below_set ?_ GE301.out | refine below_set ?_ GE306.out) | exact HB.out)⟩⟩
            · rw [if_neg c42] at H
              have c42b0 : (!(t297 == t280) || (!(t298 == t281) || (!(t299 == t282)))) = false := by simpa using c42
              clear c42
              by_cases c52 : t302 = t284
              · rw [if_pos c52] at H
                have c52b0 : (t302 == t284) = true := beq_iff_eq.mpr c52
                have c52b1 : (t302 != t284) = false := bne_eq_false_iff_eq.mpr c52
                clear c52
                by_cases c53 : t294 = t286
                · rw [if_pos c53] at H
                  have c53b0 : (t294 == t286) = true := beq_iff_eq.mpr c53
                  have c53b1 : (t294 != t286) = false := bne_eq_false_iff_eq.mpr c53
                  clear c53
                  by_cases c54 : t286 < 1
                  · rw [if_pos c54] at H
                    have c54b0 : decide (t286 < 1) = true := decide_eq_true c54
                    clear c54
                    have H' := Aside0.mk H
                    clear H
                    have hnb55 := NB301_283.out
                    have hnc55 := NB283_301.out
                    have hnb56 := NB301_288.out
                    have hnc56 := NB288_301.out
                    have hnb57 := NB301_296.out
                    have hnc57 := NB296_301.out
                    have hnb58 := NB301_306.out
                    have hnc58 := NB306_301.out
                    have hcz59_0 : w32.cell? ⟨gb301, 0, none⟩ = some (.int .i64 t297) := (blk_cell BK301.out 0).trans rfl
                    have hcz59_1 : w32.cell? ⟨gb301, 1, none⟩ = some (.int .i64 t298) := (blk_cell BK301.out 1).trans rfl
                    have hcz59_2 : w32.cell? ⟨gb301, 2, none⟩ = some (.int .i64 t299) := (blk_cell BK301.out 2).trans rfl
                    have hfz59_0 := blk_frozen BK301.out 0
                    have hfz59_1 := blk_frozen BK301.out 1
                    have hfz59_2 := blk_frozen BK301.out 2
                    have hnb60 := NB283_288.out
                    have hnc60 := NB288_283.out
                    have hnb61 := NB283_296.out
                    have hnc61 := NB296_283.out
                    have hnb62 := NB283_306.out
                    have hnc62 := NB306_283.out
                    have hcz63_0 : w32.cell? ⟨gb283, 0, none⟩ = some (.int .i64 t280) := (blk_cell BK283.out 0).trans rfl
                    have hcz63_1 : w32.cell? ⟨gb283, 1, none⟩ = some (.int .i64 t281) := (blk_cell BK283.out 1).trans rfl
                    have hcz63_2 : w32.cell? ⟨gb283, 2, none⟩ = some (.int .i64 t282) := (blk_cell BK283.out 2).trans rfl
                    have hfz63_0 := blk_frozen BK283.out 0
                    have hfz63_1 := blk_frozen BK283.out 1
                    have hfz63_2 := blk_frozen BK283.out 2
                    have hnb64 := NB306_288.out
                    have hnc64 := NB288_306.out
                    have hnb65 := NB306_296.out
                    have hnc65 := NB296_306.out
                    have hcz66_0 : w32.cell? ⟨gb306, 0, none⟩ = some (.int .i64 0) := (blk_cell BK306.out 0).trans rfl
                    have hcz66_1 : w32.cell? ⟨gb306, 1, none⟩ = some (.int .i64 0) := (blk_cell BK306.out 1).trans rfl
                    have hcz66_2 : w32.cell? ⟨gb306, 2, none⟩ = some (.int .i64 0) := (blk_cell BK306.out 2).trans rfl
                    have hfz66_0 := blk_frozen BK306.out 0
                    have hfz66_1 := blk_frozen BK306.out 1
                    have hfz66_2 := blk_frozen BK306.out 2
                    have hnb67 := NB288_296.out
                    have hnc67 := NB296_288.out
                    have hcz68_0 : w32.cell? ⟨gb288, 0, none⟩ = some (.int .i64 t284) := (blk_cell BK288.out 0).trans rfl
                    have hcz68_1 : w32.cell? ⟨gb288, 1, none⟩ = some (.int .i64 t285) := (blk_cell BK288.out 1).trans rfl
                    have hcz68_2 : w32.cell? ⟨gb288, 2, none⟩ = some (.int .i64 t286) := (blk_cell BK288.out 2).trans rfl
                    have hfz68_0 := blk_frozen BK288.out 0
                    have hfz68_1 := blk_frozen BK288.out 1
                    have hfz68_2 := blk_frozen BK288.out 2
                    have hcz69_0 : w32.cell? ⟨gb296, 0, none⟩ = some (.int .i64 t292) := (blk_cell BK296.out 0).trans rfl
                    have hcz69_1 : w32.cell? ⟨gb296, 1, none⟩ = some (.int .i64 t293) := (blk_cell BK296.out 1).trans rfl
                    have hcz69_2 : w32.cell? ⟨gb296, 2, none⟩ = some (.int .i64 t294) := (blk_cell BK296.out 2).trans rfl
                    have hfz69_0 := blk_frozen BK296.out 0
                    have hfz69_1 := blk_frozen BK296.out 1
                    have hfz69_2 := blk_frozen BK296.out 2
                    go_wp2
                    go_meet
                    case rel => exact ⟨_, (true), (by first | rfl | (simp; done) | (simp [*]; done)), H', ⟨by first | omega | exact Nat.le_refl _⟩, ⟨by (with_reducible repeat (first | refine blk_drewN ?_ _ | refine blk_drew ?_ | refine blk_alloc ?_ _)); refine blk_far ?_ NB283_306.out _; (with_reducible repeat (first | refine blk_drewN ?_ _ | refine blk_drew ?_ | refine blk_alloc ?_ _)); refine blk_far ?_ NB283_306.out _; (with_reducible repeat (first | refine blk_drewN ?_ _ | refine blk_drew ?_ | refine blk_alloc ?_ _)); refine blk_far ?_ NB283_306.out _; (with_reducible repeat (first | refine blk_drewN ?_ _ | refine blk_drew ?_ | refine blk_alloc ?_ _)); exact BK283.out⟩, ⟨by (with_reducible repeat (first | refine blk_drewN ?_ _ | refine blk_drew ?_ | refine blk_alloc ?_ _)); refine blk_far ?_ NB288_306.out _; (with_reducible repeat (first | refine blk_drewN ?_ _ | refine blk_drew ?_ | refine blk_alloc ?_ _)); refine blk_far ?_ NB288_306.out _; (with_reducible repeat (first | refine blk_drewN ?_ _ | refine blk_drew ?_ | refine blk_alloc ?_ _)); refine blk_far ?_ NB288_306.out _; (with_reducible repeat (first | refine blk_drewN ?_ _ | refine blk_drew ?_ | refine blk_alloc ?_ _)); exact BK288.out⟩, ⟨by (with_reducible repeat (first | refine blk_drewN ?_ _ | refine blk_drew ?_ | refine blk_alloc ?_ _)); refine blk_far ?_ NB296_306.out _; (with_reducible repeat (first | refine blk_drewN ?_ _ | refine blk_drew ?_ | refine blk_alloc ?_ _)); refine blk_far ?_ NB296_306.out _; (with_reducible repeat (first | refine blk_drewN ?_ _ | refine blk_drew ?_ | refine blk_alloc ?_ _)); refine blk_far ?_ NB296_306.out _; (with_reducible repeat (first | refine blk_drewN ?_ _ | refine blk_drew ?_ | refine blk_alloc ?_ _)); exact BK296.out⟩, ⟨by (with_reducible repeat (first | refine blk_drewN ?_ _ | refine blk_drew ?_ | refine blk_alloc ?_ _)); refine blk_far ?_ NB301_306.out _; (with_reducible repeat (first | refine blk_drewN ?_ _ | refine blk_drew ?_ | refine blk_alloc ?_ _)); refine blk_far ?_ NB301_306.out _; (with_reducible repeat (first | refine blk_drewN ?_ _ | refine blk_drew ?_ | refine blk_alloc ?_ _)); refine blk_far ?_ NB301_306.out _; (with_reducible repeat (first | refine blk_drewN ?_ _ | refine blk_drew ?_ | refine blk_alloc ?_ _)); exact BK301.out⟩, ⟨by (with_reducible repeat (first | refine blk_drewN ?_ _ | refine blk_drew ?_ | refine blk_alloc ?_ _)); refine blk_put (cs := #[.int .i64 t302, .int .i64 t303, .int .i64 0]) ?_ 2 _ rfl; (with_reducible repeat (first | refine blk_drewN ?_ _ | refine blk_drew ?_ | refine blk_alloc ?_ _)); refine blk_put (cs := #[.int .i64 t302, .int .i64 0, .int .i64 0]) ?_ 1 _ rfl; (with_reducible repeat (first | refine blk_drewN ?_ _ | refine blk_drew ?_ | refine blk_alloc ?_ _)); refine blk_put (cs := #[.int .i64 0, .int .i64 0, .int .i64 0]) ?_ 0 _ rfl; (with_reducible repeat (first | refine blk_drewN ?_ _ | refine blk_drew ?_ | refine blk_alloc ?_ _)); exact BK306.out⟩, ⟨by repeat (first | (with_reducible first | exact HB.out | apply below_alloc | apply pw_below_drewN | apply below_drew1 | refine below_set ?_ GE283.out | refine below_set ?_ GE288.out | refine below_set ?_ GE296.out | refine below_set ?_ GE301.out | refine below_set ?_ GE306.out) | exact HB.out)⟩⟩
                  · rw [if_neg c54] at H
                    have c54b0 : decide (t286 < 1) = false := decide_eq_false c54
                    clear c54
                    have H' := Aside0.mk H
                    clear H
                    have hnb70 := NB301_283.out
                    have hnc70 := NB283_301.out
                    have hnb71 := NB301_288.out
                    have hnc71 := NB288_301.out
                    have hnb72 := NB301_296.out
                    have hnc72 := NB296_301.out
                    have hnb73 := NB301_306.out
                    have hnc73 := NB306_301.out
                    have hcz74_0 : w32.cell? ⟨gb301, 0, none⟩ = some (.int .i64 t297) := (blk_cell BK301.out 0).trans rfl
                    have hcz74_1 : w32.cell? ⟨gb301, 1, none⟩ = some (.int .i64 t298) := (blk_cell BK301.out 1).trans rfl
                    have hcz74_2 : w32.cell? ⟨gb301, 2, none⟩ = some (.int .i64 t299) := (blk_cell BK301.out 2).trans rfl
                    have hfz74_0 := blk_frozen BK301.out 0
                    have hfz74_1 := blk_frozen BK301.out 1
                    have hfz74_2 := blk_frozen BK301.out 2
                    have hnb75 := NB283_288.out
                    have hnc75 := NB288_283.out
                    have hnb76 := NB283_296.out
                    have hnc76 := NB296_283.out
                    have hnb77 := NB283_306.out
                    have hnc77 := NB306_283.out
                    have hcz78_0 : w32.cell? ⟨gb283, 0, none⟩ = some (.int .i64 t280) := (blk_cell BK283.out 0).trans rfl
                    have hcz78_1 : w32.cell? ⟨gb283, 1, none⟩ = some (.int .i64 t281) := (blk_cell BK283.out 1).trans rfl
                    have hcz78_2 : w32.cell? ⟨gb283, 2, none⟩ = some (.int .i64 t282) := (blk_cell BK283.out 2).trans rfl
                    have hfz78_0 := blk_frozen BK283.out 0
                    have hfz78_1 := blk_frozen BK283.out 1
                    have hfz78_2 := blk_frozen BK283.out 2
                    have hnb79 := NB306_288.out
                    have hnc79 := NB288_306.out
                    have hnb80 := NB306_296.out
                    have hnc80 := NB296_306.out
                    have hcz81_0 : w32.cell? ⟨gb306, 0, none⟩ = some (.int .i64 0) := (blk_cell BK306.out 0).trans rfl
                    have hcz81_1 : w32.cell? ⟨gb306, 1, none⟩ = some (.int .i64 0) := (blk_cell BK306.out 1).trans rfl
                    have hcz81_2 : w32.cell? ⟨gb306, 2, none⟩ = some (.int .i64 0) := (blk_cell BK306.out 2).trans rfl
                    have hfz81_0 := blk_frozen BK306.out 0
                    have hfz81_1 := blk_frozen BK306.out 1
                    have hfz81_2 := blk_frozen BK306.out 2
                    have hnb82 := NB288_296.out
                    have hnc82 := NB296_288.out
                    have hcz83_0 : w32.cell? ⟨gb288, 0, none⟩ = some (.int .i64 t284) := (blk_cell BK288.out 0).trans rfl
                    have hcz83_1 : w32.cell? ⟨gb288, 1, none⟩ = some (.int .i64 t285) := (blk_cell BK288.out 1).trans rfl
                    have hcz83_2 : w32.cell? ⟨gb288, 2, none⟩ = some (.int .i64 t286) := (blk_cell BK288.out 2).trans rfl
                    have hfz83_0 := blk_frozen BK288.out 0
                    have hfz83_1 := blk_frozen BK288.out 1
                    have hfz83_2 := blk_frozen BK288.out 2
                    have hcz84_0 : w32.cell? ⟨gb296, 0, none⟩ = some (.int .i64 t292) := (blk_cell BK296.out 0).trans rfl
                    have hcz84_1 : w32.cell? ⟨gb296, 1, none⟩ = some (.int .i64 t293) := (blk_cell BK296.out 1).trans rfl
                    have hcz84_2 : w32.cell? ⟨gb296, 2, none⟩ = some (.int .i64 t294) := (blk_cell BK296.out 2).trans rfl
                    have hfz84_0 := blk_frozen BK296.out 0
                    have hfz84_1 := blk_frozen BK296.out 1
                    have hfz84_2 := blk_frozen BK296.out 2
                    go_wp2
                    go_meet
                    case rel => exact ⟨_, (decide (t286 > 7)), (by first | rfl | (simp; done) | (simp [*]; done)), H', ⟨by first | omega | exact Nat.le_refl _⟩, ⟨by (with_reducible repeat (first | refine blk_drewN ?_ _ | refine blk_drew ?_ | refine blk_alloc ?_ _)); refine blk_far ?_ NB283_306.out _; (with_reducible repeat (first | refine blk_drewN ?_ _ | refine blk_drew ?_ | refine blk_alloc ?_ _)); refine blk_far ?_ NB283_306.out _; (with_reducible repeat (first | refine blk_drewN ?_ _ | refine blk_drew ?_ | refine blk_alloc ?_ _)); refine blk_far ?_ NB283_306.out _; (with_reducible repeat (first | refine blk_drewN ?_ _ | refine blk_drew ?_ | refine blk_alloc ?_ _)); exact BK283.out⟩, ⟨by (with_reducible repeat (first | refine blk_drewN ?_ _ | refine blk_drew ?_ | refine blk_alloc ?_ _)); refine blk_far ?_ NB288_306.out _; (with_reducible repeat (first | refine blk_drewN ?_ _ | refine blk_drew ?_ | refine blk_alloc ?_ _)); refine blk_far ?_ NB288_306.out _; (with_reducible repeat (first | refine blk_drewN ?_ _ | refine blk_drew ?_ | refine blk_alloc ?_ _)); refine blk_far ?_ NB288_306.out _; (with_reducible repeat (first | refine blk_drewN ?_ _ | refine blk_drew ?_ | refine blk_alloc ?_ _)); exact BK288.out⟩, ⟨by (with_reducible repeat (first | refine blk_drewN ?_ _ | refine blk_drew ?_ | refine blk_alloc ?_ _)); refine blk_far ?_ NB296_306.out _; (with_reducible repeat (first | refine blk_drewN ?_ _ | refine blk_drew ?_ | refine blk_alloc ?_ _)); refine blk_far ?_ NB296_306.out _; (with_reducible repeat (first | refine blk_drewN ?_ _ | refine blk_drew ?_ | refine blk_alloc ?_ _)); refine blk_far ?_ NB296_306.out _; (with_reducible repeat (first | refine blk_drewN ?_ _ | refine blk_drew ?_ | refine blk_alloc ?_ _)); exact BK296.out⟩, ⟨by (with_reducible repeat (first | refine blk_drewN ?_ _ | refine blk_drew ?_ | refine blk_alloc ?_ _)); refine blk_far ?_ NB301_306.out _; (with_reducible repeat (first | refine blk_drewN ?_ _ | refine blk_drew ?_ | refine blk_alloc ?_ _)); refine blk_far ?_ NB301_306.out _; (with_reducible repeat (first | refine blk_drewN ?_ _ | refine blk_drew ?_ | refine blk_alloc ?_ _)); refine blk_far ?_ NB301_306.out _; (with_reducible repeat (first | refine blk_drewN ?_ _ | refine blk_drew ?_ | refine blk_alloc ?_ _)); exact BK301.out⟩, ⟨by (with_reducible repeat (first | refine blk_drewN ?_ _ | refine blk_drew ?_ | refine blk_alloc ?_ _)); refine blk_put (cs := #[.int .i64 t302, .int .i64 t303, .int .i64 0]) ?_ 2 _ rfl; (with_reducible repeat (first | refine blk_drewN ?_ _ | refine blk_drew ?_ | refine blk_alloc ?_ _)); refine blk_put (cs := #[.int .i64 t302, .int .i64 0, .int .i64 0]) ?_ 1 _ rfl; (with_reducible repeat (first | refine blk_drewN ?_ _ | refine blk_drew ?_ | refine blk_alloc ?_ _)); refine blk_put (cs := #[.int .i64 0, .int .i64 0, .int .i64 0]) ?_ 0 _ rfl; (with_reducible repeat (first | refine blk_drewN ?_ _ | refine blk_drew ?_ | refine blk_alloc ?_ _)); exact BK306.out⟩, ⟨by repeat (first | (with_reducible first | exact HB.out | apply below_alloc | apply pw_below_drewN | apply below_drew1 | refine below_set ?_ GE283.out | refine below_set ?_ GE288.out | refine below_set ?_ GE296.out | refine below_set ?_ GE301.out | refine below_set ?_ GE306.out) | exact HB.out)⟩⟩
                · rw [if_neg c53] at H
                  have c53b0 : (t294 == t286) = false := beq_eq_false_iff_ne.mpr c53
                  have c53b1 : (t294 != t286) = true := bne_iff_ne.mpr c53
                  have H' := Aside0.mk H
                  clear H
                  have hnb85 := NB301_283.out
                  have hnc85 := NB283_301.out
                  have hnb86 := NB301_288.out
                  have hnc86 := NB288_301.out
                  have hnb87 := NB301_296.out
                  have hnc87 := NB296_301.out
                  have hnb88 := NB301_306.out
                  have hnc88 := NB306_301.out
                  have hcz89_0 : w32.cell? ⟨gb301, 0, none⟩ = some (.int .i64 t297) := (blk_cell BK301.out 0).trans rfl
                  have hcz89_1 : w32.cell? ⟨gb301, 1, none⟩ = some (.int .i64 t298) := (blk_cell BK301.out 1).trans rfl
                  have hcz89_2 : w32.cell? ⟨gb301, 2, none⟩ = some (.int .i64 t299) := (blk_cell BK301.out 2).trans rfl
                  have hfz89_0 := blk_frozen BK301.out 0
                  have hfz89_1 := blk_frozen BK301.out 1
                  have hfz89_2 := blk_frozen BK301.out 2
                  have hnb90 := NB283_288.out
                  have hnc90 := NB288_283.out
                  have hnb91 := NB283_296.out
                  have hnc91 := NB296_283.out
                  have hnb92 := NB283_306.out
                  have hnc92 := NB306_283.out
                  have hcz93_0 : w32.cell? ⟨gb283, 0, none⟩ = some (.int .i64 t280) := (blk_cell BK283.out 0).trans rfl
                  have hcz93_1 : w32.cell? ⟨gb283, 1, none⟩ = some (.int .i64 t281) := (blk_cell BK283.out 1).trans rfl
                  have hcz93_2 : w32.cell? ⟨gb283, 2, none⟩ = some (.int .i64 t282) := (blk_cell BK283.out 2).trans rfl
                  have hfz93_0 := blk_frozen BK283.out 0
                  have hfz93_1 := blk_frozen BK283.out 1
                  have hfz93_2 := blk_frozen BK283.out 2
                  have hnb94 := NB306_288.out
                  have hnc94 := NB288_306.out
                  have hnb95 := NB306_296.out
                  have hnc95 := NB296_306.out
                  have hcz96_0 : w32.cell? ⟨gb306, 0, none⟩ = some (.int .i64 0) := (blk_cell BK306.out 0).trans rfl
                  have hcz96_1 : w32.cell? ⟨gb306, 1, none⟩ = some (.int .i64 0) := (blk_cell BK306.out 1).trans rfl
                  have hcz96_2 : w32.cell? ⟨gb306, 2, none⟩ = some (.int .i64 0) := (blk_cell BK306.out 2).trans rfl
                  have hfz96_0 := blk_frozen BK306.out 0
                  have hfz96_1 := blk_frozen BK306.out 1
                  have hfz96_2 := blk_frozen BK306.out 2
                  have hnb97 := NB288_296.out
                  have hnc97 := NB296_288.out
                  have hcz98_0 : w32.cell? ⟨gb288, 0, none⟩ = some (.int .i64 t284) := (blk_cell BK288.out 0).trans rfl
                  have hcz98_1 : w32.cell? ⟨gb288, 1, none⟩ = some (.int .i64 t285) := (blk_cell BK288.out 1).trans rfl
                  have hcz98_2 : w32.cell? ⟨gb288, 2, none⟩ = some (.int .i64 t286) := (blk_cell BK288.out 2).trans rfl
                  have hfz98_0 := blk_frozen BK288.out 0
                  have hfz98_1 := blk_frozen BK288.out 1
                  have hfz98_2 := blk_frozen BK288.out 2
                  have hcz99_0 : w32.cell? ⟨gb296, 0, none⟩ = some (.int .i64 t292) := (blk_cell BK296.out 0).trans rfl
                  have hcz99_1 : w32.cell? ⟨gb296, 1, none⟩ = some (.int .i64 t293) := (blk_cell BK296.out 1).trans rfl
                  have hcz99_2 : w32.cell? ⟨gb296, 2, none⟩ = some (.int .i64 t294) := (blk_cell BK296.out 2).trans rfl
                  have hfz99_0 := blk_frozen BK296.out 0
                  have hfz99_1 := blk_frozen BK296.out 1
                  have hfz99_2 := blk_frozen BK296.out 2
                  go_wp2
                  go_meet
                  case rel => exact ⟨_, (true), (by first | rfl | (simp; done) | (simp [*]; done)), H', ⟨by first | omega | exact Nat.le_refl _⟩, ⟨by (with_reducible repeat (first | refine blk_drewN ?_ _ | refine blk_drew ?_ | refine blk_alloc ?_ _)); refine blk_far ?_ NB283_306.out _; (with_reducible repeat (first | refine blk_drewN ?_ _ | refine blk_drew ?_ | refine blk_alloc ?_ _)); refine blk_far ?_ NB283_306.out _; (with_reducible repeat (first | refine blk_drewN ?_ _ | refine blk_drew ?_ | refine blk_alloc ?_ _)); refine blk_far ?_ NB283_306.out _; (with_reducible repeat (first | refine blk_drewN ?_ _ | refine blk_drew ?_ | refine blk_alloc ?_ _)); exact BK283.out⟩, ⟨by (with_reducible repeat (first | refine blk_drewN ?_ _ | refine blk_drew ?_ | refine blk_alloc ?_ _)); refine blk_far ?_ NB288_306.out _; (with_reducible repeat (first | refine blk_drewN ?_ _ | refine blk_drew ?_ | refine blk_alloc ?_ _)); refine blk_far ?_ NB288_306.out _; (with_reducible repeat (first | refine blk_drewN ?_ _ | refine blk_drew ?_ | refine blk_alloc ?_ _)); refine blk_far ?_ NB288_306.out _; (with_reducible repeat (first | refine blk_drewN ?_ _ | refine blk_drew ?_ | refine blk_alloc ?_ _)); exact BK288.out⟩, ⟨by (with_reducible repeat (first | refine blk_drewN ?_ _ | refine blk_drew ?_ | refine blk_alloc ?_ _)); refine blk_far ?_ NB296_306.out _; (with_reducible repeat (first | refine blk_drewN ?_ _ | refine blk_drew ?_ | refine blk_alloc ?_ _)); refine blk_far ?_ NB296_306.out _; (with_reducible repeat (first | refine blk_drewN ?_ _ | refine blk_drew ?_ | refine blk_alloc ?_ _)); refine blk_far ?_ NB296_306.out _; (with_reducible repeat (first | refine blk_drewN ?_ _ | refine blk_drew ?_ | refine blk_alloc ?_ _)); exact BK296.out⟩, ⟨by (with_reducible repeat (first | refine blk_drewN ?_ _ | refine blk_drew ?_ | refine blk_alloc ?_ _)); refine blk_far ?_ NB301_306.out _; (with_reducible repeat (first | refine blk_drewN ?_ _ | refine blk_drew ?_ | refine blk_alloc ?_ _)); refine blk_far ?_ NB301_306.out _; (with_reducible repeat (first | refine blk_drewN ?_ _ | refine blk_drew ?_ | refine blk_alloc ?_ _)); refine blk_far ?_ NB301_306.out _; (with_reducible repeat (first | refine blk_drewN ?_ _ | refine blk_drew ?_ | refine blk_alloc ?_ _)); exact BK301.out⟩, ⟨by (with_reducible repeat (first | refine blk_drewN ?_ _ | refine blk_drew ?_ | refine blk_alloc ?_ _)); refine blk_put (cs := #[.int .i64 t302, .int .i64 t303, .int .i64 0]) ?_ 2 _ rfl; (with_reducible repeat (first | refine blk_drewN ?_ _ | refine blk_drew ?_ | refine blk_alloc ?_ _)); refine blk_put (cs := #[.int .i64 t302, .int .i64 0, .int .i64 0]) ?_ 1 _ rfl; (with_reducible repeat (first | refine blk_drewN ?_ _ | refine blk_drew ?_ | refine blk_alloc ?_ _)); refine blk_put (cs := #[.int .i64 0, .int .i64 0, .int .i64 0]) ?_ 0 _ rfl; (with_reducible repeat (first | refine blk_drewN ?_ _ | refine blk_drew ?_ | refine blk_alloc ?_ _)); exact BK306.out⟩, ⟨by repeat (first | (with_reducible first | exact HB.out | apply below_alloc | apply pw_below_drewN | apply below_drew1 | refine below_set ?_ GE283.out | refine below_set ?_ GE288.out | refine below_set ?_ GE296.out | refine below_set ?_ GE301.out | refine below_set ?_ GE306.out) | exact HB.out)⟩⟩
              · rw [if_neg c52] at H
                have c52b0 : (t302 == t284) = false := beq_eq_false_iff_ne.mpr c52
                have c52b1 : (t302 != t284) = true := bne_iff_ne.mpr c52
                have H' := Aside0.mk H
                clear H
                have hnb100 := NB301_283.out
                have hnc100 := NB283_301.out
                have hnb101 := NB301_288.out
                have hnc101 := NB288_301.out
                have hnb102 := NB301_296.out
                have hnc102 := NB296_301.out
                have hnb103 := NB301_306.out
                have hnc103 := NB306_301.out
                have hcz104_0 : w32.cell? ⟨gb301, 0, none⟩ = some (.int .i64 t297) := (blk_cell BK301.out 0).trans rfl
                have hcz104_1 : w32.cell? ⟨gb301, 1, none⟩ = some (.int .i64 t298) := (blk_cell BK301.out 1).trans rfl
                have hcz104_2 : w32.cell? ⟨gb301, 2, none⟩ = some (.int .i64 t299) := (blk_cell BK301.out 2).trans rfl
                have hfz104_0 := blk_frozen BK301.out 0
                have hfz104_1 := blk_frozen BK301.out 1
                have hfz104_2 := blk_frozen BK301.out 2
                have hnb105 := NB283_288.out
                have hnc105 := NB288_283.out
                have hnb106 := NB283_296.out
                have hnc106 := NB296_283.out
                have hnb107 := NB283_306.out
                have hnc107 := NB306_283.out
                have hcz108_0 : w32.cell? ⟨gb283, 0, none⟩ = some (.int .i64 t280) := (blk_cell BK283.out 0).trans rfl
                have hcz108_1 : w32.cell? ⟨gb283, 1, none⟩ = some (.int .i64 t281) := (blk_cell BK283.out 1).trans rfl
                have hcz108_2 : w32.cell? ⟨gb283, 2, none⟩ = some (.int .i64 t282) := (blk_cell BK283.out 2).trans rfl
                have hfz108_0 := blk_frozen BK283.out 0
                have hfz108_1 := blk_frozen BK283.out 1
                have hfz108_2 := blk_frozen BK283.out 2
                have hnb109 := NB306_288.out
                have hnc109 := NB288_306.out
                have hnb110 := NB306_296.out
                have hnc110 := NB296_306.out
                have hcz111_0 : w32.cell? ⟨gb306, 0, none⟩ = some (.int .i64 0) := (blk_cell BK306.out 0).trans rfl
                have hcz111_1 : w32.cell? ⟨gb306, 1, none⟩ = some (.int .i64 0) := (blk_cell BK306.out 1).trans rfl
                have hcz111_2 : w32.cell? ⟨gb306, 2, none⟩ = some (.int .i64 0) := (blk_cell BK306.out 2).trans rfl
                have hfz111_0 := blk_frozen BK306.out 0
                have hfz111_1 := blk_frozen BK306.out 1
                have hfz111_2 := blk_frozen BK306.out 2
                have hnb112 := NB288_296.out
                have hnc112 := NB296_288.out
                have hcz113_0 : w32.cell? ⟨gb288, 0, none⟩ = some (.int .i64 t284) := (blk_cell BK288.out 0).trans rfl
                have hcz113_1 : w32.cell? ⟨gb288, 1, none⟩ = some (.int .i64 t285) := (blk_cell BK288.out 1).trans rfl
                have hcz113_2 : w32.cell? ⟨gb288, 2, none⟩ = some (.int .i64 t286) := (blk_cell BK288.out 2).trans rfl
                have hfz113_0 := blk_frozen BK288.out 0
                have hfz113_1 := blk_frozen BK288.out 1
                have hfz113_2 := blk_frozen BK288.out 2
                go_wp2
                go_meet
                case rel => exact ⟨_, (true), (by first | rfl | (simp; done) | (simp [*]; done)), H', ⟨by first | omega | exact Nat.le_refl _⟩, ⟨by (with_reducible repeat (first | refine blk_drewN ?_ _ | refine blk_drew ?_ | refine blk_alloc ?_ _)); refine blk_far ?_ NB283_306.out _; (with_reducible repeat (first | refine blk_drewN ?_ _ | refine blk_drew ?_ | refine blk_alloc ?_ _)); refine blk_far ?_ NB283_306.out _; (with_reducible repeat (first | refine blk_drewN ?_ _ | refine blk_drew ?_ | refine blk_alloc ?_ _)); refine blk_far ?_ NB283_306.out _; (with_reducible repeat (first | refine blk_drewN ?_ _ | refine blk_drew ?_ | refine blk_alloc ?_ _)); exact BK283.out⟩, ⟨by (with_reducible repeat (first | refine blk_drewN ?_ _ | refine blk_drew ?_ | refine blk_alloc ?_ _)); refine blk_far ?_ NB288_306.out _; (with_reducible repeat (first | refine blk_drewN ?_ _ | refine blk_drew ?_ | refine blk_alloc ?_ _)); refine blk_far ?_ NB288_306.out _; (with_reducible repeat (first | refine blk_drewN ?_ _ | refine blk_drew ?_ | refine blk_alloc ?_ _)); refine blk_far ?_ NB288_306.out _; (with_reducible repeat (first | refine blk_drewN ?_ _ | refine blk_drew ?_ | refine blk_alloc ?_ _)); exact BK288.out⟩, ⟨by (with_reducible repeat (first | refine blk_drewN ?_ _ | refine blk_drew ?_ | refine blk_alloc ?_ _)); refine blk_far ?_ NB296_306.out _; (with_reducible repeat (first | refine blk_drewN ?_ _ | refine blk_drew ?_ | refine blk_alloc ?_ _)); refine blk_far ?_ NB296_306.out _; (with_reducible repeat (first | refine blk_drewN ?_ _ | refine blk_drew ?_ | refine blk_alloc ?_ _)); refine blk_far ?_ NB296_306.out _; (with_reducible repeat (first | refine blk_drewN ?_ _ | refine blk_drew ?_ | refine blk_alloc ?_ _)); exact BK296.out⟩, ⟨by (with_reducible repeat (first | refine blk_drewN ?_ _ | refine blk_drew ?_ | refine blk_alloc ?_ _)); refine blk_far ?_ NB301_306.out _; (with_reducible repeat (first | refine blk_drewN ?_ _ | refine blk_drew ?_ | refine blk_alloc ?_ _)); refine blk_far ?_ NB301_306.out _; (with_reducible repeat (first | refine blk_drewN ?_ _ | refine blk_drew ?_ | refine blk_alloc ?_ _)); refine blk_far ?_ NB301_306.out _; (with_reducible repeat (first | refine blk_drewN ?_ _ | refine blk_drew ?_ | refine blk_alloc ?_ _)); exact BK301.out⟩, ⟨by (with_reducible repeat (first | refine blk_drewN ?_ _ | refine blk_drew ?_ | refine blk_alloc ?_ _)); refine blk_put (cs := #[.int .i64 t302, .int .i64 t303, .int .i64 0]) ?_ 2 _ rfl; (with_reducible repeat (first | refine blk_drewN ?_ _ | refine blk_drew ?_ | refine blk_alloc ?_ _)); refine blk_put (cs := #[.int .i64 t302, .int .i64 0, .int .i64 0]) ?_ 1 _ rfl; (with_reducible repeat (first | refine blk_drewN ?_ _ | refine blk_drew ?_ | refine blk_alloc ?_ _)); refine blk_put (cs := #[.int .i64 0, .int .i64 0, .int .i64 0]) ?_ 0 _ rfl; (with_reducible repeat (first | refine blk_drewN ?_ _ | refine blk_drew ?_ | refine blk_alloc ?_ _)); exact BK306.out⟩, ⟨by repeat (first | (with_reducible first | exact HB.out | apply below_alloc | apply pw_below_drewN | apply below_drew1 | refine below_set ?_ GE283.out | refine below_set ?_ GE288.out | refine below_set ?_ GE296.out | refine below_set ?_ GE301.out | refine below_set ?_ GE306.out) | exact HB.out)⟩⟩
          · rw [if_neg c41] at H
            have c41b0 : (t305 == 0) = false := beq_eq_false_iff_ne.mpr c41
            have c41b1 : (t305 != 0) = true := bne_iff_ne.mpr c41
            have H' := Aside0.mk H
            clear H
            go_wp2
            go_meet
            case rel => exact ⟨_, (true), (by first | rfl | (simp; done) | (simp [*]; done)), H', ⟨by first | omega | exact Nat.le_refl _⟩, ⟨by (with_reducible repeat (first | refine blk_drewN ?_ _ | refine blk_drew ?_ | refine blk_alloc ?_ _)); refine blk_far ?_ NB283_306.out _; (with_reducible repeat (first | refine blk_drewN ?_ _ | refine blk_drew ?_ | refine blk_alloc ?_ _)); refine blk_far ?_ NB283_306.out _; (with_reducible repeat (first | refine blk_drewN ?_ _ | refine blk_drew ?_ | refine blk_alloc ?_ _)); refine blk_far ?_ NB283_306.out _; (with_reducible repeat (first | refine blk_drewN ?_ _ | refine blk_drew ?_ | refine blk_alloc ?_ _)); exact BK283.out⟩, ⟨by (with_reducible repeat (first | refine blk_drewN ?_ _ | refine blk_drew ?_ | refine blk_alloc ?_ _)); refine blk_far ?_ NB288_306.out _; (with_reducible repeat (first | refine blk_drewN ?_ _ | refine blk_drew ?_ | refine blk_alloc ?_ _)); refine blk_far ?_ NB288_306.out _; (with_reducible repeat (first | refine blk_drewN ?_ _ | refine blk_drew ?_ | refine blk_alloc ?_ _)); refine blk_far ?_ NB288_306.out _; (with_reducible repeat (first | refine blk_drewN ?_ _ | refine blk_drew ?_ | refine blk_alloc ?_ _)); exact BK288.out⟩, ⟨by (with_reducible repeat (first | refine blk_drewN ?_ _ | refine blk_drew ?_ | refine blk_alloc ?_ _)); refine blk_far ?_ NB296_306.out _; (with_reducible repeat (first | refine blk_drewN ?_ _ | refine blk_drew ?_ | refine blk_alloc ?_ _)); refine blk_far ?_ NB296_306.out _; (with_reducible repeat (first | refine blk_drewN ?_ _ | refine blk_drew ?_ | refine blk_alloc ?_ _)); refine blk_far ?_ NB296_306.out _; (with_reducible repeat (first | refine blk_drewN ?_ _ | refine blk_drew ?_ | refine blk_alloc ?_ _)); exact BK296.out⟩, ⟨by (with_reducible repeat (first | refine blk_drewN ?_ _ | refine blk_drew ?_ | refine blk_alloc ?_ _)); refine blk_far ?_ NB301_306.out _; (with_reducible repeat (first | refine blk_drewN ?_ _ | refine blk_drew ?_ | refine blk_alloc ?_ _)); refine blk_far ?_ NB301_306.out _; (with_reducible repeat (first | refine blk_drewN ?_ _ | refine blk_drew ?_ | refine blk_alloc ?_ _)); refine blk_far ?_ NB301_306.out _; (with_reducible repeat (first | refine blk_drewN ?_ _ | refine blk_drew ?_ | refine blk_alloc ?_ _)); exact BK301.out⟩, ⟨by (with_reducible repeat (first | refine blk_drewN ?_ _ | refine blk_drew ?_ | refine blk_alloc ?_ _)); refine blk_put (cs := #[.int .i64 t302, .int .i64 t303, .int .i64 0]) ?_ 2 _ rfl; (with_reducible repeat (first | refine blk_drewN ?_ _ | refine blk_drew ?_ | refine blk_alloc ?_ _)); refine blk_put (cs := #[.int .i64 t302, .int .i64 0, .int .i64 0]) ?_ 1 _ rfl; (with_reducible repeat (first | refine blk_drewN ?_ _ | refine blk_drew ?_ | refine blk_alloc ?_ _)); refine blk_put (cs := #[.int .i64 0, .int .i64 0, .int .i64 0]) ?_ 0 _ rfl; (with_reducible repeat (first | refine blk_drewN ?_ _ | refine blk_drew ?_ | refine blk_alloc ?_ _)); exact BK306.out⟩, ⟨by repeat (first | (with_reducible first | exact HB.out | apply below_alloc | apply pw_below_drewN | apply below_drew1 | refine below_set ?_ GE283.out | refine below_set ?_ GE288.out | refine below_set ?_ GE296.out | refine below_set ?_ GE301.out | refine below_set ?_ GE306.out) | exact HB.out)⟩⟩
        · rw [if_neg c40] at H
          have c40b0 : (t300 == 0) = false := beq_eq_false_iff_ne.mpr c40
          have c40b1 : (t300 != 0) = true := bne_iff_ne.mpr c40
          have H' := Aside0.mk H
          clear H
          go_wp2
          go_meet
          case rel => exact ⟨_, (true), (by first | rfl | (simp; done) | (simp [*]; done)), H', ⟨by first | omega | exact Nat.le_refl _⟩, ⟨by (with_reducible repeat (first | refine blk_drewN ?_ _ | refine blk_drew ?_ | refine blk_alloc ?_ _)); refine blk_far ?_ NB283_306.out _; (with_reducible repeat (first | refine blk_drewN ?_ _ | refine blk_drew ?_ | refine blk_alloc ?_ _)); refine blk_far ?_ NB283_306.out _; (with_reducible repeat (first | refine blk_drewN ?_ _ | refine blk_drew ?_ | refine blk_alloc ?_ _)); refine blk_far ?_ NB283_306.out _; (with_reducible repeat (first | refine blk_drewN ?_ _ | refine blk_drew ?_ | refine blk_alloc ?_ _)); exact BK283.out⟩, ⟨by (with_reducible repeat (first | refine blk_drewN ?_ _ | refine blk_drew ?_ | refine blk_alloc ?_ _)); refine blk_far ?_ NB288_306.out _; (with_reducible repeat (first | refine blk_drewN ?_ _ | refine blk_drew ?_ | refine blk_alloc ?_ _)); refine blk_far ?_ NB288_306.out _; (with_reducible repeat (first | refine blk_drewN ?_ _ | refine blk_drew ?_ | refine blk_alloc ?_ _)); refine blk_far ?_ NB288_306.out _; (with_reducible repeat (first | refine blk_drewN ?_ _ | refine blk_drew ?_ | refine blk_alloc ?_ _)); exact BK288.out⟩, ⟨by (with_reducible repeat (first | refine blk_drewN ?_ _ | refine blk_drew ?_ | refine blk_alloc ?_ _)); refine blk_far ?_ NB296_306.out _; (with_reducible repeat (first | refine blk_drewN ?_ _ | refine blk_drew ?_ | refine blk_alloc ?_ _)); refine blk_far ?_ NB296_306.out _; (with_reducible repeat (first | refine blk_drewN ?_ _ | refine blk_drew ?_ | refine blk_alloc ?_ _)); refine blk_far ?_ NB296_306.out _; (with_reducible repeat (first | refine blk_drewN ?_ _ | refine blk_drew ?_ | refine blk_alloc ?_ _)); exact BK296.out⟩, ⟨by (with_reducible repeat (first | refine blk_drewN ?_ _ | refine blk_drew ?_ | refine blk_alloc ?_ _)); refine blk_far ?_ NB301_306.out _; (with_reducible repeat (first | refine blk_drewN ?_ _ | refine blk_drew ?_ | refine blk_alloc ?_ _)); refine blk_far ?_ NB301_306.out _; (with_reducible repeat (first | refine blk_drewN ?_ _ | refine blk_drew ?_ | refine blk_alloc ?_ _)); refine blk_far ?_ NB301_306.out _; (with_reducible repeat (first | refine blk_drewN ?_ _ | refine blk_drew ?_ | refine blk_alloc ?_ _)); exact BK301.out⟩, ⟨by (with_reducible repeat (first | refine blk_drewN ?_ _ | refine blk_drew ?_ | refine blk_alloc ?_ _)); refine blk_put (cs := #[.int .i64 t302, .int .i64 t303, .int .i64 0]) ?_ 2 _ rfl; (with_reducible repeat (first | refine blk_drewN ?_ _ | refine blk_drew ?_ | refine blk_alloc ?_ _)); refine blk_put (cs := #[.int .i64 t302, .int .i64 0, .int .i64 0]) ?_ 1 _ rfl; (with_reducible repeat (first | refine blk_drewN ?_ _ | refine blk_drew ?_ | refine blk_alloc ?_ _)); refine blk_put (cs := #[.int .i64 0, .int .i64 0, .int .i64 0]) ?_ 0 _ rfl; (with_reducible repeat (first | refine blk_drewN ?_ _ | refine blk_drew ?_ | refine blk_alloc ?_ _)); exact BK306.out⟩, ⟨by repeat (first | (with_reducible first | exact HB.out | apply below_alloc | apply pw_below_drewN | apply below_drew1 | refine below_set ?_ GE283.out | refine below_set ?_ GE288.out | refine below_set ?_ GE296.out | refine below_set ?_ GE301.out | refine below_set ?_ GE306.out) | exact HB.out)⟩⟩
      · rw [if_neg c39] at H
        have c39b0 : (t295 == 0) = false := beq_eq_false_iff_ne.mpr c39
        have c39b1 : (t295 != 0) = true := bne_iff_ne.mpr c39
        have H' := Aside0.mk H
        clear H
        go_wp2
        go_meet
        case rel => exact ⟨_, (true), (by first | rfl | (simp; done) | (simp [*]; done)), H', ⟨by first | omega | exact Nat.le_refl _⟩, ⟨by (with_reducible repeat (first | refine blk_drewN ?_ _ | refine blk_drew ?_ | refine blk_alloc ?_ _)); refine blk_far ?_ NB283_306.out _; (with_reducible repeat (first | refine blk_drewN ?_ _ | refine blk_drew ?_ | refine blk_alloc ?_ _)); refine blk_far ?_ NB283_306.out _; (with_reducible repeat (first | refine blk_drewN ?_ _ | refine blk_drew ?_ | refine blk_alloc ?_ _)); refine blk_far ?_ NB283_306.out _; (with_reducible repeat (first | refine blk_drewN ?_ _ | refine blk_drew ?_ | refine blk_alloc ?_ _)); exact BK283.out⟩, ⟨by (with_reducible repeat (first | refine blk_drewN ?_ _ | refine blk_drew ?_ | refine blk_alloc ?_ _)); refine blk_far ?_ NB288_306.out _; (with_reducible repeat (first | refine blk_drewN ?_ _ | refine blk_drew ?_ | refine blk_alloc ?_ _)); refine blk_far ?_ NB288_306.out _; (with_reducible repeat (first | refine blk_drewN ?_ _ | refine blk_drew ?_ | refine blk_alloc ?_ _)); refine blk_far ?_ NB288_306.out _; (with_reducible repeat (first | refine blk_drewN ?_ _ | refine blk_drew ?_ | refine blk_alloc ?_ _)); exact BK288.out⟩, ⟨by (with_reducible repeat (first | refine blk_drewN ?_ _ | refine blk_drew ?_ | refine blk_alloc ?_ _)); refine blk_far ?_ NB296_306.out _; (with_reducible repeat (first | refine blk_drewN ?_ _ | refine blk_drew ?_ | refine blk_alloc ?_ _)); refine blk_far ?_ NB296_306.out _; (with_reducible repeat (first | refine blk_drewN ?_ _ | refine blk_drew ?_ | refine blk_alloc ?_ _)); refine blk_far ?_ NB296_306.out _; (with_reducible repeat (first | refine blk_drewN ?_ _ | refine blk_drew ?_ | refine blk_alloc ?_ _)); exact BK296.out⟩, ⟨by (with_reducible repeat (first | refine blk_drewN ?_ _ | refine blk_drew ?_ | refine blk_alloc ?_ _)); refine blk_far ?_ NB301_306.out _; (with_reducible repeat (first | refine blk_drewN ?_ _ | refine blk_drew ?_ | refine blk_alloc ?_ _)); refine blk_far ?_ NB301_306.out _; (with_reducible repeat (first | refine blk_drewN ?_ _ | refine blk_drew ?_ | refine blk_alloc ?_ _)); refine blk_far ?_ NB301_306.out _; (with_reducible repeat (first | refine blk_drewN ?_ _ | refine blk_drew ?_ | refine blk_alloc ?_ _)); exact BK301.out⟩, ⟨by (with_reducible repeat (first | refine blk_drewN ?_ _ | refine blk_drew ?_ | refine blk_alloc ?_ _)); refine blk_put (cs := #[.int .i64 t302, .int .i64 t303, .int .i64 0]) ?_ 2 _ rfl; (with_reducible repeat (first | refine blk_drewN ?_ _ | refine blk_drew ?_ | refine blk_alloc ?_ _)); refine blk_put (cs := #[.int .i64 t302, .int .i64 0, .int .i64 0]) ?_ 1 _ rfl; (with_reducible repeat (first | refine blk_drewN ?_ _ | refine blk_drew ?_ | refine blk_alloc ?_ _)); refine blk_put (cs := #[.int .i64 0, .int .i64 0, .int .i64 0]) ?_ 0 _ rfl; (with_reducible repeat (first | refine blk_drewN ?_ _ | refine blk_drew ?_ | refine blk_alloc ?_ _)); exact BK306.out⟩, ⟨by repeat (first | (with_reducible first | exact HB.out | apply below_alloc | apply pw_below_drewN | apply below_drew1 | refine below_set ?_ GE283.out | refine below_set ?_ GE288.out | refine below_set ?_ GE296.out | refine below_set ?_ GE301.out | refine below_set ?_ GE306.out) | exact HB.out)⟩⟩
    · rw [if_neg c38] at H
      have c38b0 : (t287 == 0) = false := beq_eq_false_iff_ne.mpr c38
      have c38b1 : (t287 != 0) = true := bne_iff_ne.mpr c38
      (first | rw [c38b0] | (simp only [i64_w, i32_w]; rw [c38b0]) | skip)
      have H' := Aside0.mk H
      clear H
      go_wp2
      go_meet
      case rel => exact ⟨_, (true), (by first | rfl | (simp; done) | (simp [*]; done)), H', ⟨by first | omega | exact Nat.le_refl _⟩, ⟨by (with_reducible repeat (first | refine blk_drewN ?_ _ | refine blk_drew ?_ | refine blk_alloc ?_ _)); refine blk_far ?_ NB283_306.out _; (with_reducible repeat (first | refine blk_drewN ?_ _ | refine blk_drew ?_ | refine blk_alloc ?_ _)); refine blk_far ?_ NB283_306.out _; (with_reducible repeat (first | refine blk_drewN ?_ _ | refine blk_drew ?_ | refine blk_alloc ?_ _)); refine blk_far ?_ NB283_306.out _; (with_reducible repeat (first | refine blk_drewN ?_ _ | refine blk_drew ?_ | refine blk_alloc ?_ _)); exact BK283.out⟩, ⟨by (with_reducible repeat (first | refine blk_drewN ?_ _ | refine blk_drew ?_ | refine blk_alloc ?_ _)); refine blk_far ?_ NB288_306.out _; (with_reducible repeat (first | refine blk_drewN ?_ _ | refine blk_drew ?_ | refine blk_alloc ?_ _)); refine blk_far ?_ NB288_306.out _; (with_reducible repeat (first | refine blk_drewN ?_ _ | refine blk_drew ?_ | refine blk_alloc ?_ _)); refine blk_far ?_ NB288_306.out _; (with_reducible repeat (first | refine blk_drewN ?_ _ | refine blk_drew ?_ | refine blk_alloc ?_ _)); exact BK288.out⟩, ⟨by (with_reducible repeat (first | refine blk_drewN ?_ _ | refine blk_drew ?_ | refine blk_alloc ?_ _)); refine blk_far ?_ NB296_306.out _; (with_reducible repeat (first | refine blk_drewN ?_ _ | refine blk_drew ?_ | refine blk_alloc ?_ _)); refine blk_far ?_ NB296_306.out _; (with_reducible repeat (first | refine blk_drewN ?_ _ | refine blk_drew ?_ | refine blk_alloc ?_ _)); refine blk_far ?_ NB296_306.out _; (with_reducible repeat (first | refine blk_drewN ?_ _ | refine blk_drew ?_ | refine blk_alloc ?_ _)); exact BK296.out⟩, ⟨by (with_reducible repeat (first | refine blk_drewN ?_ _ | refine blk_drew ?_ | refine blk_alloc ?_ _)); refine blk_far ?_ NB301_306.out _; (with_reducible repeat (first | refine blk_drewN ?_ _ | refine blk_drew ?_ | refine blk_alloc ?_ _)); refine blk_far ?_ NB301_306.out _; (with_reducible repeat (first | refine blk_drewN ?_ _ | refine blk_drew ?_ | refine blk_alloc ?_ _)); refine blk_far ?_ NB301_306.out _; (with_reducible repeat (first | refine blk_drewN ?_ _ | refine blk_drew ?_ | refine blk_alloc ?_ _)); exact BK301.out⟩, ⟨by (with_reducible repeat (first | refine blk_drewN ?_ _ | refine blk_drew ?_ | refine blk_alloc ?_ _)); refine blk_put (cs := #[.int .i64 t302, .int .i64 t303, .int .i64 0]) ?_ 2 _ rfl; (with_reducible repeat (first | refine blk_drewN ?_ _ | refine blk_drew ?_ | refine blk_alloc ?_ _)); refine blk_put (cs := #[.int .i64 t302, .int .i64 0, .int .i64 0]) ?_ 1 _ rfl; (with_reducible repeat (first | refine blk_drewN ?_ _ | refine blk_drew ?_ | refine blk_alloc ?_ _)); refine blk_put (cs := #[.int .i64 0, .int .i64 0, .int .i64 0]) ?_ 0 _ rfl; (with_reducible repeat (first | refine blk_drewN ?_ _ | refine blk_drew ?_ | refine blk_alloc ?_ _)); exact BK306.out⟩, ⟨by repeat (first | (with_reducible first | exact HB.out | apply below_alloc | apply pw_below_drewN | apply below_drew1 | refine below_set ?_ GE283.out | refine below_set ?_ GE288.out | refine below_set ?_ GE296.out | refine below_set ?_ GE301.out | refine below_set ?_ GE306.out) | exact HB.out)⟩⟩
  case rest =>
    clear HC9
    try clear c1
    try clear c2
    try clear p2
    try clear c3
    try clear c4
    try clear c5
    try clear c6
    try clear p6
    try clear c7
    try clear c8
    try clear c9
    try clear c10
    try clear c11
    try clear c15
    try clear c19
    try clear c20
    try clear c21
    try clear c24
    try clear c25
    try clear c26
    try clear c27
    try clear c28
    try clear c33
    try clear c34
    try clear c35
    try clear c36
    try clear c38
    try clear c38b0
    try clear c38b1
    try clear c39
    try clear c39b0
    try clear c39b1
    try clear c40
    try clear c40b0
    try clear c40b1
    try clear c41
    try clear c41b0
    try clear c41b1
    try clear c42
    try clear c42b0
    try clear c43
    try clear c44
    try clear c45
    try clear c46
    try clear c48
    try clear c49
    try clear c50
    try clear c52
    try clear c52b0
    try clear c52b1
    try clear c53
    try clear c53b0
    try clear c53b1
    try clear c54
    try clear c54b0
    try clear c55
    try clear c56
    try clear c57
    try clear c58
    try clear c60
    try clear c61
    try clear c62
    try clear c64
    try clear p64
    try clear c65
    try clear c67
    try clear c70
    try clear c71
    try clear c72
    try clear c73
    try clear c75
    try clear c76
    try clear c77
    try clear c79
    try clear c80
    try clear c82
    try clear c85
    try clear c86
    try clear c87
    try clear c88
    try clear c90
    try clear c91
    try clear c92
    try clear c94
    try clear c95
    try clear c97
    try clear c100
    try clear c101
    try clear c102
    try clear c103
    try clear c105
    try clear c106
    try clear c107
    try clear c109
    try clear c110
    try clear c112
    try clear hcz104_0
    try clear hcz104_1
    try clear hcz104_2
    try clear hcz108_0
    try clear hcz108_1
    try clear hcz108_2
    try clear hcz111_0
    try clear hcz111_1
    try clear hcz111_2
    try clear hcz113_0
    try clear hcz113_1
    try clear hcz113_2
    try clear hcz12_0
    try clear hcz12_1
    try clear hcz12_2
    try clear hcz16_0
    try clear hcz16_1
    try clear hcz16_2
    try clear hcz22_0
    try clear hcz22_1
    try clear hcz22_2
    try clear hcz23_0
    try clear hcz23_1
    try clear hcz23_2
    try clear hcz29_0
    try clear hcz29_1
    try clear hcz29_2
    try clear hcz30_0
    try clear hcz30_1
    try clear hcz30_2
    try clear hcz37_0
    try clear hcz37_1
    try clear hcz37_2
    try clear hcz47_0
    try clear hcz47_1
    try clear hcz47_2
    try clear hcz51_0
    try clear hcz51_1
    try clear hcz51_2
    try clear hcz59_0
    try clear hcz59_1
    try clear hcz59_2
    try clear hcz63_0
    try clear hcz63_1
    try clear hcz63_2
    try clear hcz66_0
    try clear hcz66_1
    try clear hcz66_2
    try clear hcz68_0
    try clear hcz68_1
    try clear hcz68_2
    try clear hcz69_0
    try clear hcz69_1
    try clear hcz69_2
    try clear hcz74_0
    try clear hcz74_1
    try clear hcz74_2
    try clear hcz78_0
    try clear hcz78_1
    try clear hcz78_2
    try clear hcz81_0
    try clear hcz81_1
    try clear hcz81_2
    try clear hcz83_0
    try clear hcz83_1
    try clear hcz83_2
    try clear hcz84_0
    try clear hcz84_1
    try clear hcz84_2
    try clear hcz89_0
    try clear hcz89_1
    try clear hcz89_2
    try clear hcz93_0
    try clear hcz93_1
    try clear hcz93_2
    try clear hcz96_0
    try clear hcz96_1
    try clear hcz96_2
    try clear hcz98_0
    try clear hcz98_1
    try clear hcz98_2
    try clear hcz99_0
    try clear hcz99_1
    try clear hcz99_2
    try clear hfz104_0
    try clear hfz104_1
    try clear hfz104_2
    try clear hfz108_0
    try clear hfz108_1
    try clear hfz108_2
    try clear hfz111_0
    try clear hfz111_1
    try clear hfz111_2
    try clear hfz113_0
    try clear hfz113_1
    try clear hfz113_2
    try clear hfz12_0
    try clear hfz12_1
    try clear hfz12_2
    try clear hfz16_0
    try clear hfz16_1
    try clear hfz16_2
    try clear hfz22_0
    try clear hfz22_1
    try clear hfz22_2
    try clear hfz23_0
    try clear hfz23_1
    try clear hfz23_2
    try clear hfz29_0
    try clear hfz29_1
    try clear hfz29_2
    try clear hfz30_0
    try clear hfz30_1
    try clear hfz30_2
    try clear hfz37_0
    try clear hfz37_1
    try clear hfz37_2
    try clear hfz47_0
    try clear hfz47_1
    try clear hfz47_2
    try clear hfz51_0
    try clear hfz51_1
    try clear hfz51_2
    try clear hfz59_0
    try clear hfz59_1
    try clear hfz59_2
    try clear hfz63_0
    try clear hfz63_1
    try clear hfz63_2
    try clear hfz66_0
    try clear hfz66_1
    try clear hfz66_2
    try clear hfz68_0
    try clear hfz68_1
    try clear hfz68_2
    try clear hfz69_0
    try clear hfz69_1
    try clear hfz69_2
    try clear hfz74_0
    try clear hfz74_1
    try clear hfz74_2
    try clear hfz78_0
    try clear hfz78_1
    try clear hfz78_2
    try clear hfz81_0
    try clear hfz81_1
    try clear hfz81_2
    try clear hfz83_0
    try clear hfz83_1
    try clear hfz83_2
    try clear hfz84_0
    try clear hfz84_1
    try clear hfz84_2
    try clear hfz89_0
    try clear hfz89_1
    try clear hfz89_2
    try clear hfz93_0
    try clear hfz93_1
    try clear hfz93_2
    try clear hfz96_0
    try clear hfz96_1
    try clear hfz96_2
    try clear hfz98_0
    try clear hfz98_1
    try clear hfz98_2
    try clear hfz99_0
    try clear hfz99_1
    try clear hfz99_2
    obtain ⟨kq, x86_8, rfl, HA, HJ8, BK283, BK288, BK296, BK301, BK306, HB⟩ := hcut
    cases kq with
    | zero => exact absurd HA.out (by simp [larderlaw03_CalWeekly.j0])
    | succ kj8 =>
      have H := HA.out
      clear HA
      simp only [larderlaw03_CalWeekly.j0] at H
      by_cases c114 : x86_8 = true
      · subst c114
        have H1 : (some false) = some r := by rw [if_pos rfl] at H; exact H
        clear H
        have H := H1
        clear H1
        obtain rfl := Option.some.inj H
        go_wp2
        go_ret
        exact ⟨by first | rfl | (simp [errW_none, errW_some] <;> rfl) | (simp [*, errW_none, errW_some] <;> rfl), by repeat (first | (with_reducible first | exact HB.out | apply below_alloc | apply pw_below_drewN | apply below_drew1 | refine below_set ?_ GE283.out | refine below_set ?_ GE288.out | refine below_set ?_ GE296.out | refine below_set ?_ GE301.out | refine below_set ?_ GE306.out) | exact HB.out)⟩
      · replace c114 := Bool.eq_false_iff.mpr c114
        subst c114
        have H1 : ((larderlaw03_at.f kj8 (wrap64 (t279 + 1))).bind fun bt307 => ((cal_WeekOf.f bt307.1 bt307.2.1 bt307.2.2).bind fun bt310 => (if t286 < 7 then (if bt310.2.2.1 = (wrap64 (t286 + 1)) then (if bt310.2.1 = t285 then (if bt310.1 = t284 then (if t286 = 7 then (larderlaw03_CalWeekly.j1 kj8 (bt310.2.2.1 != 1) t284 t285 t286 t292 t293 t294) else (larderlaw03_CalWeekly.j1 kj8 false t284 t285 t286 t292 t293 t294)) else (larderlaw03_CalWeekly.j1 kj8 true t284 t285 t286 t292 t293 t294)) else (larderlaw03_CalWeekly.j1 kj8 true t284 t285 t286 t292 t293 t294)) else (larderlaw03_CalWeekly.j1 kj8 true t284 t285 t286 t292 t293 t294)) else (if t286 = 7 then (larderlaw03_CalWeekly.j1 kj8 (bt310.2.2.1 != 1) t284 t285 t286 t292 t293 t294) else (larderlaw03_CalWeekly.j1 kj8 false t284 t285 t286 t292 t293 t294))))) = some r := by rw [if_neg (show ¬ (false = true) by decide)] at H; exact H
        clear H
        have H := H1
        clear H1
        replace H := Option.bind_eq_some_iff.mp H
        obtain ⟨⟨t307, t308, t309⟩, A1150, H⟩ := H
        replace H : ((cal_WeekOf.f t307 t308 t309).bind fun bt310 => (if t286 < 7 then (if bt310.2.2.1 = (wrap64 (t286 + 1)) then (if bt310.2.1 = t285 then (if bt310.1 = t284 then (if t286 = 7 then (larderlaw03_CalWeekly.j1 kj8 (bt310.2.2.1 != 1) t284 t285 t286 t292 t293 t294) else (larderlaw03_CalWeekly.j1 kj8 false t284 t285 t286 t292 t293 t294)) else (larderlaw03_CalWeekly.j1 kj8 true t284 t285 t286 t292 t293 t294)) else (larderlaw03_CalWeekly.j1 kj8 true t284 t285 t286 t292 t293 t294)) else (larderlaw03_CalWeekly.j1 kj8 true t284 t285 t286 t292 t293 t294)) else (if t286 = 7 then (larderlaw03_CalWeekly.j1 kj8 (bt310.2.2.1 != 1) t284 t285 t286 t292 t293 t294) else (larderlaw03_CalWeekly.j1 kj8 false t284 t285 t286 t292 t293 t294)))) = some r := H
        have A115 := Aside0.mk A1150
        clear A1150
        replace H := Option.bind_eq_some_iff.mp H
        obtain ⟨⟨t310, t311, t312, t313⟩, A1160, H⟩ := H
        replace H : (if t286 < 7 then (if t312 = (wrap64 (t286 + 1)) then (if t311 = t285 then (if t310 = t284 then (if t286 = 7 then (larderlaw03_CalWeekly.j1 kj8 (t312 != 1) t284 t285 t286 t292 t293 t294) else (larderlaw03_CalWeekly.j1 kj8 false t284 t285 t286 t292 t293 t294)) else (larderlaw03_CalWeekly.j1 kj8 true t284 t285 t286 t292 t293 t294)) else (larderlaw03_CalWeekly.j1 kj8 true t284 t285 t286 t292 t293 t294)) else (larderlaw03_CalWeekly.j1 kj8 true t284 t285 t286 t292 t293 t294)) else (if t286 = 7 then (larderlaw03_CalWeekly.j1 kj8 (t312 != 1) t284 t285 t286 t292 t293 t294) else (larderlaw03_CalWeekly.j1 kj8 false t284 t285 t286 t292 t293 t294))) = some r := H
        have A116 := Aside0.mk A1160
        clear A1160
        have HC117 := Aside0.mk H
        clear H
        go_upto_region 10 with (first | ((with_reducible refine gate_callee (f := 24) rfl ?_); refine goesL_ (some 90) rfl rfl Tryd.func24 (by kernel_rfl) rfl #[.int .i64 (wrap64 (t279 + 1))] rfl (by (try simp only [List.map_toArray, List.map_cons, List.map_nil]); first | done | rfl | (simp only [List.length_drop, List.length_take]; rfl)) ?_; (with_reducible refine (larderlaw03_at.calls kj8 (wrap64 (t279 + 1)) t307 t308 t309 _ ?side1 A115.out).mono ?_); (case side1 => refine GlobOk.below HG.out ?_; repeat (first | (with_reducible first | exact HB.out | apply below_alloc | apply pw_below_drewN | apply below_drew1 | refine below_set ?_ GE283.out | refine below_set ?_ GE288.out | refine below_set ?_ GE296.out | refine below_set ?_ GE301.out | refine below_set ?_ GE306.out) | exact HB.out)); rintro e w118 ⟨rfl, hb⟩; refine ⟨_, rfl, ?_⟩; have n0_ := Aside0.mk (blk_below (g := gb283) (o := .cells #[.int .i64 t280, .int .i64 t281, .int .i64 t282] 23 (0, 0)) (by (with_reducible repeat (first | refine blk_drewN ?_ _ | refine blk_drew ?_ | refine blk_alloc ?_ _)); exact BK283.out) hb); have n1_ := Aside0.mk (blk_below (g := gb288) (o := .cells #[.int .i64 t284, .int .i64 t285, .int .i64 t286] 43 (0, 0)) (by (with_reducible repeat (first | refine blk_drewN ?_ _ | refine blk_drew ?_ | refine blk_alloc ?_ _)); exact BK288.out) hb); have n2_ := Aside0.mk (blk_below (g := gb296) (o := .cells #[.int .i64 t292, .int .i64 t293, .int .i64 t294] 43 (0, 0)) (by (with_reducible repeat (first | refine blk_drewN ?_ _ | refine blk_drew ?_ | refine blk_alloc ?_ _)); exact BK296.out) hb); have n3_ := Aside0.mk (blk_below (g := gb301) (o := .cells #[.int .i64 t297, .int .i64 t298, .int .i64 t299] 23 (0, 0)) (by (with_reducible repeat (first | refine blk_drewN ?_ _ | refine blk_drew ?_ | refine blk_alloc ?_ _)); exact BK301.out) hb); have n4_ := Aside0.mk (blk_below (g := gb306) (o := .cells #[.int .i64 t302, .int .i64 t303, .int .i64 t304] 23 (0, 0)) (by (with_reducible repeat (first | refine blk_drewN ?_ _ | refine blk_drew ?_ | refine blk_alloc ?_ _)); exact BK306.out) hb); have n5_ := Aside0.mk (below_step (by repeat (first | (with_reducible first | exact HB.out | apply below_alloc | apply pw_below_drewN | apply below_drew1 | refine below_set ?_ GE283.out | refine below_set ?_ GE288.out | refine below_set ?_ GE296.out | refine below_set ?_ GE301.out | refine below_set ?_ GE306.out) | exact HB.out)) hb); clear BK283; clear BK288; clear BK296; clear BK301; clear BK306; clear HB; have BK283 := n0_; have BK288 := n1_; have BK296 := n2_; have BK301 := n3_; have BK306 := n4_; have HB := n5_; clear n0_ n1_ n2_ n3_ n4_ n5_; (try clear hb); (try clear hb2); (try clear hk); (try clear hi)) | ((with_reducible refine gate_callee (f := 25) rfl ?_); refine goesL_ (some 91) rfl rfl Tryd.func25 (by kernel_rfl) rfl #[.agg #[.int .i64 t307, .int .i64 t308, .int .i64 t309]] rfl (by (try simp only [List.map_toArray, List.map_cons, List.map_nil]); first | done | rfl | (simp only [List.length_drop, List.length_take]; rfl)) ?_; (with_reducible refine (cal_WeekOf.calls t307 t308 t309 t310 t311 t312 t313 _ ?side1 A116.out).mono ?_); (case side1 => refine GlobOk.below HG.out ?_; repeat (first | (with_reducible first | exact HB.out | apply below_alloc | apply pw_below_drewN | apply below_drew1 | refine below_set ?_ GE283.out | refine below_set ?_ GE288.out | refine below_set ?_ GE296.out | refine below_set ?_ GE301.out | refine below_set ?_ GE306.out) | exact HB.out)); rintro e w119 ⟨rfl, hb⟩; refine ⟨_, rfl, ?_⟩; have n0_ := Aside0.mk (blk_below (g := gb283) (o := .cells #[.int .i64 t280, .int .i64 t281, .int .i64 t282] 23 (0, 0)) (by (with_reducible repeat (first | refine blk_drewN ?_ _ | refine blk_drew ?_ | refine blk_alloc ?_ _)); exact BK283.out) hb); have n1_ := Aside0.mk (blk_below (g := gb288) (o := .cells #[.int .i64 t284, .int .i64 t285, .int .i64 t286] 43 (0, 0)) (by (with_reducible repeat (first | refine blk_drewN ?_ _ | refine blk_drew ?_ | refine blk_alloc ?_ _)); exact BK288.out) hb); have n2_ := Aside0.mk (blk_below (g := gb296) (o := .cells #[.int .i64 t292, .int .i64 t293, .int .i64 t294] 43 (0, 0)) (by (with_reducible repeat (first | refine blk_drewN ?_ _ | refine blk_drew ?_ | refine blk_alloc ?_ _)); exact BK296.out) hb); have n3_ := Aside0.mk (blk_below (g := gb301) (o := .cells #[.int .i64 t297, .int .i64 t298, .int .i64 t299] 23 (0, 0)) (by (with_reducible repeat (first | refine blk_drewN ?_ _ | refine blk_drew ?_ | refine blk_alloc ?_ _)); exact BK301.out) hb); have n4_ := Aside0.mk (blk_below (g := gb306) (o := .cells #[.int .i64 t302, .int .i64 t303, .int .i64 t304] 23 (0, 0)) (by (with_reducible repeat (first | refine blk_drewN ?_ _ | refine blk_drew ?_ | refine blk_alloc ?_ _)); exact BK306.out) hb); have n5_ := Aside0.mk (below_step (by repeat (first | (with_reducible first | exact HB.out | apply below_alloc | apply pw_below_drewN | apply below_drew1 | refine below_set ?_ GE283.out | refine below_set ?_ GE288.out | refine below_set ?_ GE296.out | refine below_set ?_ GE301.out | refine below_set ?_ GE306.out) | exact HB.out)) hb); clear BK283; clear BK288; clear BK296; clear BK301; clear BK306; clear HB; have BK283 := n0_; have BK288 := n1_; have BK296 := n2_; have BK301 := n3_; have BK306 := n4_; have HB := n5_; clear n0_ n1_ n2_ n3_ n4_ n5_; (try clear hb); (try clear hb2); (try clear hk); (try clear hi)) | ((with_reducible refine gate_dst (N := 12) rfl ?_); refine box_event ?hg (N := 12) ?hd (cs := #[.int .i64 0, .int .i64 0, .int .i64 0]) (t := 43) ?hr ?_; (case hd => rfl); (case hg => rfl); (case hr => first | (go_simp; done) | (go_simp; rfl)); intro gb314 hg w120 hbox hb; have n0_ := Aside0.mk (blk_below (g := gb283) (o := .cells #[.int .i64 t280, .int .i64 t281, .int .i64 t282] 23 (0, 0)) (by (with_reducible repeat (first | refine blk_drewN ?_ _ | refine blk_drew ?_ | refine blk_alloc ?_ _)); exact BK283.out) hb); have n1_ := Aside0.mk (blk_below (g := gb288) (o := .cells #[.int .i64 t284, .int .i64 t285, .int .i64 t286] 43 (0, 0)) (by (with_reducible repeat (first | refine blk_drewN ?_ _ | refine blk_drew ?_ | refine blk_alloc ?_ _)); exact BK288.out) hb); have n2_ := Aside0.mk (blk_below (g := gb296) (o := .cells #[.int .i64 t292, .int .i64 t293, .int .i64 t294] 43 (0, 0)) (by (with_reducible repeat (first | refine blk_drewN ?_ _ | refine blk_drew ?_ | refine blk_alloc ?_ _)); exact BK296.out) hb); have n3_ := Aside0.mk (blk_below (g := gb301) (o := .cells #[.int .i64 t297, .int .i64 t298, .int .i64 t299] 23 (0, 0)) (by (with_reducible repeat (first | refine blk_drewN ?_ _ | refine blk_drew ?_ | refine blk_alloc ?_ _)); exact BK301.out) hb); have n4_ := Aside0.mk (blk_below (g := gb306) (o := .cells #[.int .i64 t302, .int .i64 t303, .int .i64 t304] 23 (0, 0)) (by (with_reducible repeat (first | refine blk_drewN ?_ _ | refine blk_drew ?_ | refine blk_alloc ?_ _)); exact BK306.out) hb); have n5_ := Aside0.mk (below_step (by repeat (first | (with_reducible first | exact HB.out | apply below_alloc | apply pw_below_drewN | apply below_drew1 | refine below_set ?_ GE283.out | refine below_set ?_ GE288.out | refine below_set ?_ GE296.out | refine below_set ?_ GE301.out | refine below_set ?_ GE306.out) | exact HB.out)) hb); have n6_ := Aside0.mk (hbox); have n7_ := Aside0.mk ((by rw [hg]; exact (below_size (by repeat (first | (with_reducible first | exact HB.out | apply below_alloc | apply pw_below_drewN | apply below_drew1 | refine below_set ?_ GE283.out | refine below_set ?_ GE288.out | refine below_set ?_ GE296.out | refine below_set ?_ GE301.out | refine below_set ?_ GE306.out) | exact HB.out))) : w.heap.size ≤ gb314)); have n8_ := Aside0.mk ((by rw [hg]; exact (below_size (by repeat (first | (with_reducible first | exact HB.out | apply below_alloc | apply pw_below_drewN | apply below_drew1 | refine below_set ?_ GE283.out | refine below_set ?_ GE288.out | refine below_set ?_ GE296.out | refine below_set ?_ GE301.out | refine below_set ?_ GE306.out) | exact HB.out))) : w.heap.size ≤ gb314)); have n9_ := Aside0.mk ((by rw [hg]; exact Nat.ne_of_lt (blk_lt (g := gb283) (o := .cells #[.int .i64 t280, .int .i64 t281, .int .i64 t282] 23 (0, 0)) (by (with_reducible repeat (first | refine blk_drewN ?_ _ | refine blk_drew ?_ | refine blk_alloc ?_ _)); exact BK283.out)) : gb283 ≠ gb314)); have n10_ := Aside0.mk ((by rw [hg]; exact Nat.ne_of_gt (blk_lt (g := gb283) (o := .cells #[.int .i64 t280, .int .i64 t281, .int .i64 t282] 23 (0, 0)) (by (with_reducible repeat (first | refine blk_drewN ?_ _ | refine blk_drew ?_ | refine blk_alloc ?_ _)); exact BK283.out)) : gb314 ≠ gb283)); have n11_ := Aside0.mk ((by rw [hg]; exact Nat.ne_of_lt (blk_lt (g := gb288) (o := .cells #[.int .i64 t284, .int .i64 t285, .int .i64 t286] 43 (0, 0)) (by (with_reducible repeat (first | refine blk_drewN ?_ _ | refine blk_drew ?_ | refine blk_alloc ?_ _)); exact BK288.out)) : gb288 ≠ gb314)); have n12_ := Aside0.mk ((by rw [hg]; exact Nat.ne_of_gt (blk_lt (g := gb288) (o := .cells #[.int .i64 t284, .int .i64 t285, .int .i64 t286] 43 (0, 0)) (by (with_reducible repeat (first | refine blk_drewN ?_ _ | refine blk_drew ?_ | refine blk_alloc ?_ _)); exact BK288.out)) : gb314 ≠ gb288)); have n13_ := Aside0.mk ((by rw [hg]; exact Nat.ne_of_lt (blk_lt (g := gb296) (o := .cells #[.int .i64 t292, .int .i64 t293, .int .i64 t294] 43 (0, 0)) (by (with_reducible repeat (first | refine blk_drewN ?_ _ | refine blk_drew ?_ | refine blk_alloc ?_ _)); exact BK296.out)) : gb296 ≠ gb314)); have n14_ := Aside0.mk ((by rw [hg]; exact Nat.ne_of_gt (blk_lt (g := gb296) (o := .cells #[.int .i64 t292, .int .i64 t293, .int .i64 t294] 43 (0, 0)) (by (with_reducible repeat (first | refine blk_drewN ?_ _ | refine blk_drew ?_ | refine blk_alloc ?_ _)); exact BK296.out)) : gb314 ≠ gb296)); have n15_ := Aside0.mk ((by rw [hg]; exact Nat.ne_of_lt (blk_lt (g := gb301) (o := .cells #[.int .i64 t297, .int .i64 t298, .int .i64 t299] 23 (0, 0)) (by (with_reducible repeat (first | refine blk_drewN ?_ _ | refine blk_drew ?_ | refine blk_alloc ?_ _)); exact BK301.out)) : gb301 ≠ gb314)); have n16_ := Aside0.mk ((by rw [hg]; exact Nat.ne_of_gt (blk_lt (g := gb301) (o := .cells #[.int .i64 t297, .int .i64 t298, .int .i64 t299] 23 (0, 0)) (by (with_reducible repeat (first | refine blk_drewN ?_ _ | refine blk_drew ?_ | refine blk_alloc ?_ _)); exact BK301.out)) : gb314 ≠ gb301)); have n17_ := Aside0.mk ((by rw [hg]; exact Nat.ne_of_lt (blk_lt (g := gb306) (o := .cells #[.int .i64 t302, .int .i64 t303, .int .i64 t304] 23 (0, 0)) (by (with_reducible repeat (first | refine blk_drewN ?_ _ | refine blk_drew ?_ | refine blk_alloc ?_ _)); exact BK306.out)) : gb306 ≠ gb314)); have n18_ := Aside0.mk ((by rw [hg]; exact Nat.ne_of_gt (blk_lt (g := gb306) (o := .cells #[.int .i64 t302, .int .i64 t303, .int .i64 t304] 23 (0, 0)) (by (with_reducible repeat (first | refine blk_drewN ?_ _ | refine blk_drew ?_ | refine blk_alloc ?_ _)); exact BK306.out)) : gb314 ≠ gb306)); clear BK283; clear BK288; clear BK296; clear BK301; clear BK306; clear HB; have BK283 := n0_; have BK288 := n1_; have BK296 := n2_; have BK301 := n3_; have BK306 := n4_; have HB := n5_; have BK314 := n6_; have GW314 := n7_; have GE314 := n8_; have NB283_314 := n9_; have NB314_283 := n10_; have NB288_314 := n11_; have NB314_288 := n12_; have NB296_314 := n13_; have NB314_296 := n14_; have NB301_314 := n15_; have NB314_301 := n16_; have NB306_314 := n17_; have NB314_306 := n18_; clear n0_ n1_ n2_ n3_ n4_ n5_ n6_ n7_ n8_ n9_ n10_ n11_ n12_ n13_ n14_ n15_ n16_ n17_ n18_; clear hb hbox hg; have hnb121 := NB314_283.out; have hnc121 := NB283_314.out; have hnb122 := NB314_288.out; have hnc122 := NB288_314.out; have hnb123 := NB314_296.out; have hnc123 := NB296_314.out; have hnb124 := NB314_301.out; have hnc124 := NB301_314.out; have hnb125 := NB314_306.out; have hnc125 := NB306_314.out; have hcz126_0 : w120.cell? ⟨gb314, 0, none⟩ = some (.int .i64 0) := (blk_cell BK314.out 0).trans rfl; have hcz126_1 : w120.cell? ⟨gb314, 1, none⟩ = some (.int .i64 0) := (blk_cell BK314.out 1).trans rfl; have hcz126_2 : w120.cell? ⟨gb314, 2, none⟩ = some (.int .i64 0) := (blk_cell BK314.out 2).trans rfl; have hfz126_0 := blk_frozen BK314.out 0; have hfz126_1 := blk_frozen BK314.out 1; have hfz126_2 := blk_frozen BK314.out 2))
        (try simp only [Act.put, List.setIfInBounds_toArray, List.set_cons_zero, List.set_cons_succ])
        go_cut [128] (fun v128 wc => ∃ (kq : Nat) (x128_116 : Bool), v128 = .bool x128_116 ∧ Aside0 (larderlaw03_CalWeekly.j1 kq x128_116 t284 t285 t286 t292 t293 t294 = some r) ∧ Aside0 (kq ≤ kj8) ∧ Aside0 (wc.heap[gb283]? = some (.cells #[.int .i64 t280, .int .i64 t281, .int .i64 t282] 23 (0, 0))) ∧ Aside0 (wc.heap[gb288]? = some (.cells #[.int .i64 t284, .int .i64 t285, .int .i64 t286] 43 (0, 0))) ∧ Aside0 (wc.heap[gb296]? = some (.cells #[.int .i64 t292, .int .i64 t293, .int .i64 t294] 43 (0, 0))) ∧ Aside0 (wc.heap[gb301]? = some (.cells #[.int .i64 t297, .int .i64 t298, .int .i64 t299] 23 (0, 0))) ∧ Aside0 (wc.heap[gb306]? = some (.cells #[.int .i64 t302, .int .i64 t303, .int .i64 t304] 23 (0, 0))) ∧ Aside0 (wc.heap[gb314]? = some (.cells #[.int .i64 t310, .int .i64 t311, .int .i64 t312] 43 (0, 0))) ∧ Aside0 (Below w.heap.size w wc))
        case first =>
          have H := HC117.out
          clear HC117
          by_cases c127 : t286 < 7
          · rw [if_pos c127] at H
            have c127b0 : decide (t286 < 7) = true := decide_eq_true c127
            clear c127
            (first | rw [c127b0] | (simp only [i64_w, i32_w]; rw [c127b0]) | skip)
            by_cases c128 : t312 = (wrap64 (t286 + 1))
            · rw [if_pos c128] at H
              have c128b0 : (t312 == (wrap64 (t286 + 1))) = true := beq_iff_eq.mpr c128
              have c128b1 : (t312 != (wrap64 (t286 + 1))) = false := bne_eq_false_iff_eq.mpr c128
              clear c128
              by_cases c129 : t311 = t285
              · rw [if_pos c129] at H
                have c129b0 : (t311 == t285) = true := beq_iff_eq.mpr c129
                have c129b1 : (t311 != t285) = false := bne_eq_false_iff_eq.mpr c129
                clear c129
                by_cases c130 : t310 = t284
                · rw [if_pos c130] at H
                  have c130b0 : (t310 == t284) = true := beq_iff_eq.mpr c130
                  have c130b1 : (t310 != t284) = false := bne_eq_false_iff_eq.mpr c130
                  clear c130
                  by_cases c131 : t286 = 7
                  · rw [if_pos c131] at H
                    have c131b0 : (t286 == 7) = true := beq_iff_eq.mpr c131
                    have c131b1 : (t286 != 7) = false := bne_eq_false_iff_eq.mpr c131
                    clear c131
                    have H' := Aside0.mk H
                    clear H
                    have hnb132 := NB288_283.out
                    have hnc132 := NB283_288.out
                    have hnb133 := NB288_296.out
                    have hnc133 := NB296_288.out
                    have hnb134 := NB288_301.out
                    have hnc134 := NB301_288.out
                    have hnb135 := NB288_306.out
                    have hnc135 := NB306_288.out
                    have hnb136 := NB288_314.out
                    have hnc136 := NB314_288.out
                    have hcz137_0 : w120.cell? ⟨gb288, 0, none⟩ = some (.int .i64 t284) := (blk_cell BK288.out 0).trans rfl
                    have hcz137_1 : w120.cell? ⟨gb288, 1, none⟩ = some (.int .i64 t285) := (blk_cell BK288.out 1).trans rfl
                    have hcz137_2 : w120.cell? ⟨gb288, 2, none⟩ = some (.int .i64 t286) := (blk_cell BK288.out 2).trans rfl
                    have hfz137_0 := blk_frozen BK288.out 0
                    have hfz137_1 := blk_frozen BK288.out 1
                    have hfz137_2 := blk_frozen BK288.out 2
                    have hnb138 := NB314_283.out
                    have hnc138 := NB283_314.out
                    have hnb139 := NB314_296.out
                    have hnc139 := NB296_314.out
                    have hnb140 := NB314_301.out
                    have hnc140 := NB301_314.out
                    have hnb141 := NB314_306.out
                    have hnc141 := NB306_314.out
                    have hcz142_0 : w120.cell? ⟨gb314, 0, none⟩ = some (.int .i64 0) := (blk_cell BK314.out 0).trans rfl
                    have hcz142_1 : w120.cell? ⟨gb314, 1, none⟩ = some (.int .i64 0) := (blk_cell BK314.out 1).trans rfl
                    have hcz142_2 : w120.cell? ⟨gb314, 2, none⟩ = some (.int .i64 0) := (blk_cell BK314.out 2).trans rfl
                    have hfz142_0 := blk_frozen BK314.out 0
                    have hfz142_1 := blk_frozen BK314.out 1
                    have hfz142_2 := blk_frozen BK314.out 2
                    go_wp2
                    go_meet
                    case rel => exact ⟨_, ((t312 != 1)), (by first | rfl | (simp; done) | (simp [*]; done)), H', ⟨by have := HJ8.out; first | omega | exact Nat.le_refl _⟩, ⟨by (with_reducible repeat (first | refine blk_drewN ?_ _ | refine blk_drew ?_ | refine blk_alloc ?_ _)); refine blk_far ?_ NB283_314.out _; (with_reducible repeat (first | refine blk_drewN ?_ _ | refine blk_drew ?_ | refine blk_alloc ?_ _)); refine blk_far ?_ NB283_314.out _; (with_reducible repeat (first | refine blk_drewN ?_ _ | refine blk_drew ?_ | refine blk_alloc ?_ _)); refine blk_far ?_ NB283_314.out _; (with_reducible repeat (first | refine blk_drewN ?_ _ | refine blk_drew ?_ | refine blk_alloc ?_ _)); exact BK283.out⟩, ⟨by (with_reducible repeat (first | refine blk_drewN ?_ _ | refine blk_drew ?_ | refine blk_alloc ?_ _)); refine blk_far ?_ NB288_314.out _; (with_reducible repeat (first | refine blk_drewN ?_ _ | refine blk_drew ?_ | refine blk_alloc ?_ _)); refine blk_far ?_ NB288_314.out _; (with_reducible repeat (first | refine blk_drewN ?_ _ | refine blk_drew ?_ | refine blk_alloc ?_ _)); refine blk_far ?_ NB288_314.out _; (with_reducible repeat (first | refine blk_drewN ?_ _ | refine blk_drew ?_ | refine blk_alloc ?_ _)); exact BK288.out⟩, ⟨by (with_reducible repeat (first | refine blk_drewN ?_ _ | refine blk_drew ?_ | refine blk_alloc ?_ _)); refine blk_far ?_ NB296_314.out _; (with_reducible repeat (first | refine blk_drewN ?_ _ | refine blk_drew ?_ | refine blk_alloc ?_ _)); refine blk_far ?_ NB296_314.out _; (with_reducible repeat (first | refine blk_drewN ?_ _ | refine blk_drew ?_ | refine blk_alloc ?_ _)); refine blk_far ?_ NB296_314.out _; (with_reducible repeat (first | refine blk_drewN ?_ _ | refine blk_drew ?_ | refine blk_alloc ?_ _)); exact BK296.out⟩, ⟨by (with_reducible repeat (first | refine blk_drewN ?_ _ | refine blk_drew ?_ | refine blk_alloc ?_ _)); refine blk_far ?_ NB301_314.out _; (with_reducible repeat (first | refine blk_drewN ?_ _ | refine blk_drew ?_ | refine blk_alloc ?_ _)); refine blk_far ?_ NB301_314.out _; (with_reducible repeat (first | refine blk_drewN ?_ _ | refine blk_drew ?_ | refine blk_alloc ?_ _)); refine blk_far ?_ NB301_314.out _; (with_reducible repeat (first | refine blk_drewN ?_ _ | refine blk_drew ?_ | refine blk_alloc ?_ _)); exact BK301.out⟩, ⟨by (with_reducible repeat (first | refine blk_drewN ?_ _ | refine blk_drew ?_ | refine blk_alloc ?_ _)); refine blk_far ?_ NB306_314.out _; (with_reducible repeat (first | refine blk_drewN ?_ _ | refine blk_drew ?_ | refine blk_alloc ?_ _)); refine blk_far ?_ NB306_314.out _; (with_reducible repeat (first | refine blk_drewN ?_ _ | refine blk_drew ?_ | refine blk_alloc ?_ _)); refine blk_far ?_ NB306_314.out _; (with_reducible repeat (first | refine blk_drewN ?_ _ | refine blk_drew ?_ | refine blk_alloc ?_ _)); exact BK306.out⟩, ⟨by (with_reducible repeat (first | refine blk_drewN ?_ _ | refine blk_drew ?_ | refine blk_alloc ?_ _)); refine blk_put (cs := #[.int .i64 t310, .int .i64 t311, .int .i64 0]) ?_ 2 _ rfl; (with_reducible repeat (first | refine blk_drewN ?_ _ | refine blk_drew ?_ | refine blk_alloc ?_ _)); refine blk_put (cs := #[.int .i64 t310, .int .i64 0, .int .i64 0]) ?_ 1 _ rfl; (with_reducible repeat (first | refine blk_drewN ?_ _ | refine blk_drew ?_ | refine blk_alloc ?_ _)); refine blk_put (cs := #[.int .i64 0, .int .i64 0, .int .i64 0]) ?_ 0 _ rfl; (with_reducible repeat (first | refine blk_drewN ?_ _ | refine blk_drew ?_ | refine blk_alloc ?_ _)); exact BK314.out⟩, ⟨by repeat (first | (with_reducible first | exact HB.out | apply below_alloc | apply pw_below_drewN | apply below_drew1 | refine below_set ?_ GE283.out | refine below_set ?_ GE288.out | refine below_set ?_ GE296.out | refine below_set ?_ GE301.out | refine below_set ?_ GE306.out | refine below_set ?_ GE314.out) | exact HB.out)⟩⟩
                  · rw [if_neg c131] at H
                    have c131b0 : (t286 == 7) = false := beq_eq_false_iff_ne.mpr c131
                    have c131b1 : (t286 != 7) = true := bne_iff_ne.mpr c131
                    have H' := Aside0.mk H
                    clear H
                    have hnb143 := NB288_283.out
                    have hnc143 := NB283_288.out
                    have hnb144 := NB288_296.out
                    have hnc144 := NB296_288.out
                    have hnb145 := NB288_301.out
                    have hnc145 := NB301_288.out
                    have hnb146 := NB288_306.out
                    have hnc146 := NB306_288.out
                    have hnb147 := NB288_314.out
                    have hnc147 := NB314_288.out
                    have hcz148_0 : w120.cell? ⟨gb288, 0, none⟩ = some (.int .i64 t284) := (blk_cell BK288.out 0).trans rfl
                    have hcz148_1 : w120.cell? ⟨gb288, 1, none⟩ = some (.int .i64 t285) := (blk_cell BK288.out 1).trans rfl
                    have hcz148_2 : w120.cell? ⟨gb288, 2, none⟩ = some (.int .i64 t286) := (blk_cell BK288.out 2).trans rfl
                    have hfz148_0 := blk_frozen BK288.out 0
                    have hfz148_1 := blk_frozen BK288.out 1
                    have hfz148_2 := blk_frozen BK288.out 2
                    have hnb149 := NB314_283.out
                    have hnc149 := NB283_314.out
                    have hnb150 := NB314_296.out
                    have hnc150 := NB296_314.out
                    have hnb151 := NB314_301.out
                    have hnc151 := NB301_314.out
                    have hnb152 := NB314_306.out
                    have hnc152 := NB306_314.out
                    have hcz153_0 : w120.cell? ⟨gb314, 0, none⟩ = some (.int .i64 0) := (blk_cell BK314.out 0).trans rfl
                    have hcz153_1 : w120.cell? ⟨gb314, 1, none⟩ = some (.int .i64 0) := (blk_cell BK314.out 1).trans rfl
                    have hcz153_2 : w120.cell? ⟨gb314, 2, none⟩ = some (.int .i64 0) := (blk_cell BK314.out 2).trans rfl
                    have hfz153_0 := blk_frozen BK314.out 0
                    have hfz153_1 := blk_frozen BK314.out 1
                    have hfz153_2 := blk_frozen BK314.out 2
                    go_wp2
                    go_meet
                    case rel => exact ⟨_, (false), (by first | rfl | (simp; done) | (simp [*]; done)), H', ⟨by have := HJ8.out; first | omega | exact Nat.le_refl _⟩, ⟨by (with_reducible repeat (first | refine blk_drewN ?_ _ | refine blk_drew ?_ | refine blk_alloc ?_ _)); refine blk_far ?_ NB283_314.out _; (with_reducible repeat (first | refine blk_drewN ?_ _ | refine blk_drew ?_ | refine blk_alloc ?_ _)); refine blk_far ?_ NB283_314.out _; (with_reducible repeat (first | refine blk_drewN ?_ _ | refine blk_drew ?_ | refine blk_alloc ?_ _)); refine blk_far ?_ NB283_314.out _; (with_reducible repeat (first | refine blk_drewN ?_ _ | refine blk_drew ?_ | refine blk_alloc ?_ _)); exact BK283.out⟩, ⟨by (with_reducible repeat (first | refine blk_drewN ?_ _ | refine blk_drew ?_ | refine blk_alloc ?_ _)); refine blk_far ?_ NB288_314.out _; (with_reducible repeat (first | refine blk_drewN ?_ _ | refine blk_drew ?_ | refine blk_alloc ?_ _)); refine blk_far ?_ NB288_314.out _; (with_reducible repeat (first | refine blk_drewN ?_ _ | refine blk_drew ?_ | refine blk_alloc ?_ _)); refine blk_far ?_ NB288_314.out _; (with_reducible repeat (first | refine blk_drewN ?_ _ | refine blk_drew ?_ | refine blk_alloc ?_ _)); exact BK288.out⟩, ⟨by (with_reducible repeat (first | refine blk_drewN ?_ _ | refine blk_drew ?_ | refine blk_alloc ?_ _)); refine blk_far ?_ NB296_314.out _; (with_reducible repeat (first | refine blk_drewN ?_ _ | refine blk_drew ?_ | refine blk_alloc ?_ _)); refine blk_far ?_ NB296_314.out _; (with_reducible repeat (first | refine blk_drewN ?_ _ | refine blk_drew ?_ | refine blk_alloc ?_ _)); refine blk_far ?_ NB296_314.out _; (with_reducible repeat (first | refine blk_drewN ?_ _ | refine blk_drew ?_ | refine blk_alloc ?_ _)); exact BK296.out⟩, ⟨by (with_reducible repeat (first | refine blk_drewN ?_ _ | refine blk_drew ?_ | refine blk_alloc ?_ _)); refine blk_far ?_ NB301_314.out _; (with_reducible repeat (first | refine blk_drewN ?_ _ | refine blk_drew ?_ | refine blk_alloc ?_ _)); refine blk_far ?_ NB301_314.out _; (with_reducible repeat (first | refine blk_drewN ?_ _ | refine blk_drew ?_ | refine blk_alloc ?_ _)); refine blk_far ?_ NB301_314.out _; (with_reducible repeat (first | refine blk_drewN ?_ _ | refine blk_drew ?_ | refine blk_alloc ?_ _)); exact BK301.out⟩, ⟨by (with_reducible repeat (first | refine blk_drewN ?_ _ | refine blk_drew ?_ | refine blk_alloc ?_ _)); refine blk_far ?_ NB306_314.out _; (with_reducible repeat (first | refine blk_drewN ?_ _ | refine blk_drew ?_ | refine blk_alloc ?_ _)); refine blk_far ?_ NB306_314.out _; (with_reducible repeat (first | refine blk_drewN ?_ _ | refine blk_drew ?_ | refine blk_alloc ?_ _)); refine blk_far ?_ NB306_314.out _; (with_reducible repeat (first | refine blk_drewN ?_ _ | refine blk_drew ?_ | refine blk_alloc ?_ _)); exact BK306.out⟩, ⟨by (with_reducible repeat (first | refine blk_drewN ?_ _ | refine blk_drew ?_ | refine blk_alloc ?_ _)); refine blk_put (cs := #[.int .i64 t310, .int .i64 t311, .int .i64 0]) ?_ 2 _ rfl; (with_reducible repeat (first | refine blk_drewN ?_ _ | refine blk_drew ?_ | refine blk_alloc ?_ _)); refine blk_put (cs := #[.int .i64 t310, .int .i64 0, .int .i64 0]) ?_ 1 _ rfl; (with_reducible repeat (first | refine blk_drewN ?_ _ | refine blk_drew ?_ | refine blk_alloc ?_ _)); refine blk_put (cs := #[.int .i64 0, .int .i64 0, .int .i64 0]) ?_ 0 _ rfl; (with_reducible repeat (first | refine blk_drewN ?_ _ | refine blk_drew ?_ | refine blk_alloc ?_ _)); exact BK314.out⟩, ⟨by repeat (first | (with_reducible first | exact HB.out | apply below_alloc | apply pw_below_drewN | apply below_drew1 | refine below_set ?_ GE283.out | refine below_set ?_ GE288.out | refine below_set ?_ GE296.out | refine below_set ?_ GE301.out | refine below_set ?_ GE306.out | refine below_set ?_ GE314.out) | exact HB.out)⟩⟩
                · rw [if_neg c130] at H
                  have c130b0 : (t310 == t284) = false := beq_eq_false_iff_ne.mpr c130
                  have c130b1 : (t310 != t284) = true := bne_iff_ne.mpr c130
                  have H' := Aside0.mk H
                  clear H
                  have hnb154 := NB288_283.out
                  have hnc154 := NB283_288.out
                  have hnb155 := NB288_296.out
                  have hnc155 := NB296_288.out
                  have hnb156 := NB288_301.out
                  have hnc156 := NB301_288.out
                  have hnb157 := NB288_306.out
                  have hnc157 := NB306_288.out
                  have hnb158 := NB288_314.out
                  have hnc158 := NB314_288.out
                  have hcz159_0 : w120.cell? ⟨gb288, 0, none⟩ = some (.int .i64 t284) := (blk_cell BK288.out 0).trans rfl
                  have hcz159_1 : w120.cell? ⟨gb288, 1, none⟩ = some (.int .i64 t285) := (blk_cell BK288.out 1).trans rfl
                  have hcz159_2 : w120.cell? ⟨gb288, 2, none⟩ = some (.int .i64 t286) := (blk_cell BK288.out 2).trans rfl
                  have hfz159_0 := blk_frozen BK288.out 0
                  have hfz159_1 := blk_frozen BK288.out 1
                  have hfz159_2 := blk_frozen BK288.out 2
                  have hnb160 := NB314_283.out
                  have hnc160 := NB283_314.out
                  have hnb161 := NB314_296.out
                  have hnc161 := NB296_314.out
                  have hnb162 := NB314_301.out
                  have hnc162 := NB301_314.out
                  have hnb163 := NB314_306.out
                  have hnc163 := NB306_314.out
                  have hcz164_0 : w120.cell? ⟨gb314, 0, none⟩ = some (.int .i64 0) := (blk_cell BK314.out 0).trans rfl
                  have hcz164_1 : w120.cell? ⟨gb314, 1, none⟩ = some (.int .i64 0) := (blk_cell BK314.out 1).trans rfl
                  have hcz164_2 : w120.cell? ⟨gb314, 2, none⟩ = some (.int .i64 0) := (blk_cell BK314.out 2).trans rfl
                  have hfz164_0 := blk_frozen BK314.out 0
                  have hfz164_1 := blk_frozen BK314.out 1
                  have hfz164_2 := blk_frozen BK314.out 2
                  go_wp2
                  go_meet
                  case rel => exact ⟨_, (true), (by first | rfl | (simp; done) | (simp [*]; done)), H', ⟨by have := HJ8.out; first | omega | exact Nat.le_refl _⟩, ⟨by (with_reducible repeat (first | refine blk_drewN ?_ _ | refine blk_drew ?_ | refine blk_alloc ?_ _)); refine blk_far ?_ NB283_314.out _; (with_reducible repeat (first | refine blk_drewN ?_ _ | refine blk_drew ?_ | refine blk_alloc ?_ _)); refine blk_far ?_ NB283_314.out _; (with_reducible repeat (first | refine blk_drewN ?_ _ | refine blk_drew ?_ | refine blk_alloc ?_ _)); refine blk_far ?_ NB283_314.out _; (with_reducible repeat (first | refine blk_drewN ?_ _ | refine blk_drew ?_ | refine blk_alloc ?_ _)); exact BK283.out⟩, ⟨by (with_reducible repeat (first | refine blk_drewN ?_ _ | refine blk_drew ?_ | refine blk_alloc ?_ _)); refine blk_far ?_ NB288_314.out _; (with_reducible repeat (first | refine blk_drewN ?_ _ | refine blk_drew ?_ | refine blk_alloc ?_ _)); refine blk_far ?_ NB288_314.out _; (with_reducible repeat (first | refine blk_drewN ?_ _ | refine blk_drew ?_ | refine blk_alloc ?_ _)); refine blk_far ?_ NB288_314.out _; (with_reducible repeat (first | refine blk_drewN ?_ _ | refine blk_drew ?_ | refine blk_alloc ?_ _)); exact BK288.out⟩, ⟨by (with_reducible repeat (first | refine blk_drewN ?_ _ | refine blk_drew ?_ | refine blk_alloc ?_ _)); refine blk_far ?_ NB296_314.out _; (with_reducible repeat (first | refine blk_drewN ?_ _ | refine blk_drew ?_ | refine blk_alloc ?_ _)); refine blk_far ?_ NB296_314.out _; (with_reducible repeat (first | refine blk_drewN ?_ _ | refine blk_drew ?_ | refine blk_alloc ?_ _)); refine blk_far ?_ NB296_314.out _; (with_reducible repeat (first | refine blk_drewN ?_ _ | refine blk_drew ?_ | refine blk_alloc ?_ _)); exact BK296.out⟩, ⟨by (with_reducible repeat (first | refine blk_drewN ?_ _ | refine blk_drew ?_ | refine blk_alloc ?_ _)); refine blk_far ?_ NB301_314.out _; (with_reducible repeat (first | refine blk_drewN ?_ _ | refine blk_drew ?_ | refine blk_alloc ?_ _)); refine blk_far ?_ NB301_314.out _; (with_reducible repeat (first | refine blk_drewN ?_ _ | refine blk_drew ?_ | refine blk_alloc ?_ _)); refine blk_far ?_ NB301_314.out _; (with_reducible repeat (first | refine blk_drewN ?_ _ | refine blk_drew ?_ | refine blk_alloc ?_ _)); exact BK301.out⟩, ⟨by (with_reducible repeat (first | refine blk_drewN ?_ _ | refine blk_drew ?_ | refine blk_alloc ?_ _)); refine blk_far ?_ NB306_314.out _; (with_reducible repeat (first | refine blk_drewN ?_ _ | refine blk_drew ?_ | refine blk_alloc ?_ _)); refine blk_far ?_ NB306_314.out _; (with_reducible repeat (first | refine blk_drewN ?_ _ | refine blk_drew ?_ | refine blk_alloc ?_ _)); refine blk_far ?_ NB306_314.out _; (with_reducible repeat (first | refine blk_drewN ?_ _ | refine blk_drew ?_ | refine blk_alloc ?_ _)); exact BK306.out⟩, ⟨by (with_reducible repeat (first | refine blk_drewN ?_ _ | refine blk_drew ?_ | refine blk_alloc ?_ _)); refine blk_put (cs := #[.int .i64 t310, .int .i64 t311, .int .i64 0]) ?_ 2 _ rfl; (with_reducible repeat (first | refine blk_drewN ?_ _ | refine blk_drew ?_ | refine blk_alloc ?_ _)); refine blk_put (cs := #[.int .i64 t310, .int .i64 0, .int .i64 0]) ?_ 1 _ rfl; (with_reducible repeat (first | refine blk_drewN ?_ _ | refine blk_drew ?_ | refine blk_alloc ?_ _)); refine blk_put (cs := #[.int .i64 0, .int .i64 0, .int .i64 0]) ?_ 0 _ rfl; (with_reducible repeat (first | refine blk_drewN ?_ _ | refine blk_drew ?_ | refine blk_alloc ?_ _)); exact BK314.out⟩, ⟨by repeat (first | (with_reducible first | exact HB.out | apply below_alloc | apply pw_below_drewN | apply below_drew1 | refine below_set ?_ GE283.out | refine below_set ?_ GE288.out | refine below_set ?_ GE296.out | refine below_set ?_ GE301.out | refine below_set ?_ GE306.out | refine below_set ?_ GE314.out) | exact HB.out)⟩⟩
              · rw [if_neg c129] at H
                have c129b0 : (t311 == t285) = false := beq_eq_false_iff_ne.mpr c129
                have c129b1 : (t311 != t285) = true := bne_iff_ne.mpr c129
                have H' := Aside0.mk H
                clear H
                have hnb165 := NB288_283.out
                have hnc165 := NB283_288.out
                have hnb166 := NB288_296.out
                have hnc166 := NB296_288.out
                have hnb167 := NB288_301.out
                have hnc167 := NB301_288.out
                have hnb168 := NB288_306.out
                have hnc168 := NB306_288.out
                have hnb169 := NB288_314.out
                have hnc169 := NB314_288.out
                have hcz170_0 : w120.cell? ⟨gb288, 0, none⟩ = some (.int .i64 t284) := (blk_cell BK288.out 0).trans rfl
                have hcz170_1 : w120.cell? ⟨gb288, 1, none⟩ = some (.int .i64 t285) := (blk_cell BK288.out 1).trans rfl
                have hcz170_2 : w120.cell? ⟨gb288, 2, none⟩ = some (.int .i64 t286) := (blk_cell BK288.out 2).trans rfl
                have hfz170_0 := blk_frozen BK288.out 0
                have hfz170_1 := blk_frozen BK288.out 1
                have hfz170_2 := blk_frozen BK288.out 2
                have hnb171 := NB314_283.out
                have hnc171 := NB283_314.out
                have hnb172 := NB314_296.out
                have hnc172 := NB296_314.out
                have hnb173 := NB314_301.out
                have hnc173 := NB301_314.out
                have hnb174 := NB314_306.out
                have hnc174 := NB306_314.out
                have hcz175_0 : w120.cell? ⟨gb314, 0, none⟩ = some (.int .i64 0) := (blk_cell BK314.out 0).trans rfl
                have hcz175_1 : w120.cell? ⟨gb314, 1, none⟩ = some (.int .i64 0) := (blk_cell BK314.out 1).trans rfl
                have hcz175_2 : w120.cell? ⟨gb314, 2, none⟩ = some (.int .i64 0) := (blk_cell BK314.out 2).trans rfl
                have hfz175_0 := blk_frozen BK314.out 0
                have hfz175_1 := blk_frozen BK314.out 1
                have hfz175_2 := blk_frozen BK314.out 2
                go_wp2
                go_meet
                case rel => exact ⟨_, (true), (by first | rfl | (simp; done) | (simp [*]; done)), H', ⟨by have := HJ8.out; first | omega | exact Nat.le_refl _⟩, ⟨by (with_reducible repeat (first | refine blk_drewN ?_ _ | refine blk_drew ?_ | refine blk_alloc ?_ _)); refine blk_far ?_ NB283_314.out _; (with_reducible repeat (first | refine blk_drewN ?_ _ | refine blk_drew ?_ | refine blk_alloc ?_ _)); refine blk_far ?_ NB283_314.out _; (with_reducible repeat (first | refine blk_drewN ?_ _ | refine blk_drew ?_ | refine blk_alloc ?_ _)); refine blk_far ?_ NB283_314.out _; (with_reducible repeat (first | refine blk_drewN ?_ _ | refine blk_drew ?_ | refine blk_alloc ?_ _)); exact BK283.out⟩, ⟨by (with_reducible repeat (first | refine blk_drewN ?_ _ | refine blk_drew ?_ | refine blk_alloc ?_ _)); refine blk_far ?_ NB288_314.out _; (with_reducible repeat (first | refine blk_drewN ?_ _ | refine blk_drew ?_ | refine blk_alloc ?_ _)); refine blk_far ?_ NB288_314.out _; (with_reducible repeat (first | refine blk_drewN ?_ _ | refine blk_drew ?_ | refine blk_alloc ?_ _)); refine blk_far ?_ NB288_314.out _; (with_reducible repeat (first | refine blk_drewN ?_ _ | refine blk_drew ?_ | refine blk_alloc ?_ _)); exact BK288.out⟩, ⟨by (with_reducible repeat (first | refine blk_drewN ?_ _ | refine blk_drew ?_ | refine blk_alloc ?_ _)); refine blk_far ?_ NB296_314.out _; (with_reducible repeat (first | refine blk_drewN ?_ _ | refine blk_drew ?_ | refine blk_alloc ?_ _)); refine blk_far ?_ NB296_314.out _; (with_reducible repeat (first | refine blk_drewN ?_ _ | refine blk_drew ?_ | refine blk_alloc ?_ _)); refine blk_far ?_ NB296_314.out _; (with_reducible repeat (first | refine blk_drewN ?_ _ | refine blk_drew ?_ | refine blk_alloc ?_ _)); exact BK296.out⟩, ⟨by (with_reducible repeat (first | refine blk_drewN ?_ _ | refine blk_drew ?_ | refine blk_alloc ?_ _)); refine blk_far ?_ NB301_314.out _; (with_reducible repeat (first | refine blk_drewN ?_ _ | refine blk_drew ?_ | refine blk_alloc ?_ _)); refine blk_far ?_ NB301_314.out _; (with_reducible repeat (first | refine blk_drewN ?_ _ | refine blk_drew ?_ | refine blk_alloc ?_ _)); refine blk_far ?_ NB301_314.out _; (with_reducible repeat (first | refine blk_drewN ?_ _ | refine blk_drew ?_ | refine blk_alloc ?_ _)); exact BK301.out⟩, ⟨by (with_reducible repeat (first | refine blk_drewN ?_ _ | refine blk_drew ?_ | refine blk_alloc ?_ _)); refine blk_far ?_ NB306_314.out _; (with_reducible repeat (first | refine blk_drewN ?_ _ | refine blk_drew ?_ | refine blk_alloc ?_ _)); refine blk_far ?_ NB306_314.out _; (with_reducible repeat (first | refine blk_drewN ?_ _ | refine blk_drew ?_ | refine blk_alloc ?_ _)); refine blk_far ?_ NB306_314.out _; (with_reducible repeat (first | refine blk_drewN ?_ _ | refine blk_drew ?_ | refine blk_alloc ?_ _)); exact BK306.out⟩, ⟨by (with_reducible repeat (first | refine blk_drewN ?_ _ | refine blk_drew ?_ | refine blk_alloc ?_ _)); refine blk_put (cs := #[.int .i64 t310, .int .i64 t311, .int .i64 0]) ?_ 2 _ rfl; (with_reducible repeat (first | refine blk_drewN ?_ _ | refine blk_drew ?_ | refine blk_alloc ?_ _)); refine blk_put (cs := #[.int .i64 t310, .int .i64 0, .int .i64 0]) ?_ 1 _ rfl; (with_reducible repeat (first | refine blk_drewN ?_ _ | refine blk_drew ?_ | refine blk_alloc ?_ _)); refine blk_put (cs := #[.int .i64 0, .int .i64 0, .int .i64 0]) ?_ 0 _ rfl; (with_reducible repeat (first | refine blk_drewN ?_ _ | refine blk_drew ?_ | refine blk_alloc ?_ _)); exact BK314.out⟩, ⟨by repeat (first | (with_reducible first | exact HB.out | apply below_alloc | apply pw_below_drewN | apply below_drew1 | refine below_set ?_ GE283.out | refine below_set ?_ GE288.out | refine below_set ?_ GE296.out | refine below_set ?_ GE301.out | refine below_set ?_ GE306.out | refine below_set ?_ GE314.out) | exact HB.out)⟩⟩
            · rw [if_neg c128] at H
              have c128b0 : (t312 == (wrap64 (t286 + 1))) = false := beq_eq_false_iff_ne.mpr c128
              have c128b1 : (t312 != (wrap64 (t286 + 1))) = true := bne_iff_ne.mpr c128
              have H' := Aside0.mk H
              clear H
              have hnb176 := NB288_283.out
              have hnc176 := NB283_288.out
              have hnb177 := NB288_296.out
              have hnc177 := NB296_288.out
              have hnb178 := NB288_301.out
              have hnc178 := NB301_288.out
              have hnb179 := NB288_306.out
              have hnc179 := NB306_288.out
              have hnb180 := NB288_314.out
              have hnc180 := NB314_288.out
              have hcz181_0 : w120.cell? ⟨gb288, 0, none⟩ = some (.int .i64 t284) := (blk_cell BK288.out 0).trans rfl
              have hcz181_1 : w120.cell? ⟨gb288, 1, none⟩ = some (.int .i64 t285) := (blk_cell BK288.out 1).trans rfl
              have hcz181_2 : w120.cell? ⟨gb288, 2, none⟩ = some (.int .i64 t286) := (blk_cell BK288.out 2).trans rfl
              have hfz181_0 := blk_frozen BK288.out 0
              have hfz181_1 := blk_frozen BK288.out 1
              have hfz181_2 := blk_frozen BK288.out 2
              have hnb182 := NB314_283.out
              have hnc182 := NB283_314.out
              have hnb183 := NB314_296.out
              have hnc183 := NB296_314.out
              have hnb184 := NB314_301.out
              have hnc184 := NB301_314.out
              have hnb185 := NB314_306.out
              have hnc185 := NB306_314.out
              have hcz186_0 : w120.cell? ⟨gb314, 0, none⟩ = some (.int .i64 0) := (blk_cell BK314.out 0).trans rfl
              have hcz186_1 : w120.cell? ⟨gb314, 1, none⟩ = some (.int .i64 0) := (blk_cell BK314.out 1).trans rfl
              have hcz186_2 : w120.cell? ⟨gb314, 2, none⟩ = some (.int .i64 0) := (blk_cell BK314.out 2).trans rfl
              have hfz186_0 := blk_frozen BK314.out 0
              have hfz186_1 := blk_frozen BK314.out 1
              have hfz186_2 := blk_frozen BK314.out 2
              go_wp2
              go_meet
              case rel => exact ⟨_, (true), (by first | rfl | (simp; done) | (simp [*]; done)), H', ⟨by have := HJ8.out; first | omega | exact Nat.le_refl _⟩, ⟨by (with_reducible repeat (first | refine blk_drewN ?_ _ | refine blk_drew ?_ | refine blk_alloc ?_ _)); refine blk_far ?_ NB283_314.out _; (with_reducible repeat (first | refine blk_drewN ?_ _ | refine blk_drew ?_ | refine blk_alloc ?_ _)); refine blk_far ?_ NB283_314.out _; (with_reducible repeat (first | refine blk_drewN ?_ _ | refine blk_drew ?_ | refine blk_alloc ?_ _)); refine blk_far ?_ NB283_314.out _; (with_reducible repeat (first | refine blk_drewN ?_ _ | refine blk_drew ?_ | refine blk_alloc ?_ _)); exact BK283.out⟩, ⟨by (with_reducible repeat (first | refine blk_drewN ?_ _ | refine blk_drew ?_ | refine blk_alloc ?_ _)); refine blk_far ?_ NB288_314.out _; (with_reducible repeat (first | refine blk_drewN ?_ _ | refine blk_drew ?_ | refine blk_alloc ?_ _)); refine blk_far ?_ NB288_314.out _; (with_reducible repeat (first | refine blk_drewN ?_ _ | refine blk_drew ?_ | refine blk_alloc ?_ _)); refine blk_far ?_ NB288_314.out _; (with_reducible repeat (first | refine blk_drewN ?_ _ | refine blk_drew ?_ | refine blk_alloc ?_ _)); exact BK288.out⟩, ⟨by (with_reducible repeat (first | refine blk_drewN ?_ _ | refine blk_drew ?_ | refine blk_alloc ?_ _)); refine blk_far ?_ NB296_314.out _; (with_reducible repeat (first | refine blk_drewN ?_ _ | refine blk_drew ?_ | refine blk_alloc ?_ _)); refine blk_far ?_ NB296_314.out _; (with_reducible repeat (first | refine blk_drewN ?_ _ | refine blk_drew ?_ | refine blk_alloc ?_ _)); refine blk_far ?_ NB296_314.out _; (with_reducible repeat (first | refine blk_drewN ?_ _ | refine blk_drew ?_ | refine blk_alloc ?_ _)); exact BK296.out⟩, ⟨by (with_reducible repeat (first | refine blk_drewN ?_ _ | refine blk_drew ?_ | refine blk_alloc ?_ _)); refine blk_far ?_ NB301_314.out _; (with_reducible repeat (first | refine blk_drewN ?_ _ | refine blk_drew ?_ | refine blk_alloc ?_ _)); refine blk_far ?_ NB301_314.out _; (with_reducible repeat (first | refine blk_drewN ?_ _ | refine blk_drew ?_ | refine blk_alloc ?_ _)); refine blk_far ?_ NB301_314.out _; (with_reducible repeat (first | refine blk_drewN ?_ _ | refine blk_drew ?_ | refine blk_alloc ?_ _)); exact BK301.out⟩, ⟨by (with_reducible repeat (first | refine blk_drewN ?_ _ | refine blk_drew ?_ | refine blk_alloc ?_ _)); refine blk_far ?_ NB306_314.out _; (with_reducible repeat (first | refine blk_drewN ?_ _ | refine blk_drew ?_ | refine blk_alloc ?_ _)); refine blk_far ?_ NB306_314.out _; (with_reducible repeat (first | refine blk_drewN ?_ _ | refine blk_drew ?_ | refine blk_alloc ?_ _)); refine blk_far ?_ NB306_314.out _; (with_reducible repeat (first | refine blk_drewN ?_ _ | refine blk_drew ?_ | refine blk_alloc ?_ _)); exact BK306.out⟩, ⟨by (with_reducible repeat (first | refine blk_drewN ?_ _ | refine blk_drew ?_ | refine blk_alloc ?_ _)); refine blk_put (cs := #[.int .i64 t310, .int .i64 t311, .int .i64 0]) ?_ 2 _ rfl; (with_reducible repeat (first | refine blk_drewN ?_ _ | refine blk_drew ?_ | refine blk_alloc ?_ _)); refine blk_put (cs := #[.int .i64 t310, .int .i64 0, .int .i64 0]) ?_ 1 _ rfl; (with_reducible repeat (first | refine blk_drewN ?_ _ | refine blk_drew ?_ | refine blk_alloc ?_ _)); refine blk_put (cs := #[.int .i64 0, .int .i64 0, .int .i64 0]) ?_ 0 _ rfl; (with_reducible repeat (first | refine blk_drewN ?_ _ | refine blk_drew ?_ | refine blk_alloc ?_ _)); exact BK314.out⟩, ⟨by repeat (first | (with_reducible first | exact HB.out | apply below_alloc | apply pw_below_drewN | apply below_drew1 | refine below_set ?_ GE283.out | refine below_set ?_ GE288.out | refine below_set ?_ GE296.out | refine below_set ?_ GE301.out | refine below_set ?_ GE306.out | refine below_set ?_ GE314.out) | exact HB.out)⟩⟩
          · rw [if_neg c127] at H
            have c127b0 : decide (t286 < 7) = false := decide_eq_false c127
            clear c127
            (first | rw [c127b0] | (simp only [i64_w, i32_w]; rw [c127b0]) | skip)
            by_cases c187 : t286 = 7
            · rw [if_pos c187] at H
              have c187b0 : (t286 == 7) = true := beq_iff_eq.mpr c187
              have c187b1 : (t286 != 7) = false := bne_eq_false_iff_eq.mpr c187
              clear c187
              have H' := Aside0.mk H
              clear H
              have hnb188 := NB288_283.out
              have hnc188 := NB283_288.out
              have hnb189 := NB288_296.out
              have hnc189 := NB296_288.out
              have hnb190 := NB288_301.out
              have hnc190 := NB301_288.out
              have hnb191 := NB288_306.out
              have hnc191 := NB306_288.out
              have hnb192 := NB288_314.out
              have hnc192 := NB314_288.out
              have hcz193_0 : w120.cell? ⟨gb288, 0, none⟩ = some (.int .i64 t284) := (blk_cell BK288.out 0).trans rfl
              have hcz193_1 : w120.cell? ⟨gb288, 1, none⟩ = some (.int .i64 t285) := (blk_cell BK288.out 1).trans rfl
              have hcz193_2 : w120.cell? ⟨gb288, 2, none⟩ = some (.int .i64 t286) := (blk_cell BK288.out 2).trans rfl
              have hfz193_0 := blk_frozen BK288.out 0
              have hfz193_1 := blk_frozen BK288.out 1
              have hfz193_2 := blk_frozen BK288.out 2
              have hnb194 := NB314_283.out
              have hnc194 := NB283_314.out
              have hnb195 := NB314_296.out
              have hnc195 := NB296_314.out
              have hnb196 := NB314_301.out
              have hnc196 := NB301_314.out
              have hnb197 := NB314_306.out
              have hnc197 := NB306_314.out
              have hcz198_0 : w120.cell? ⟨gb314, 0, none⟩ = some (.int .i64 0) := (blk_cell BK314.out 0).trans rfl
              have hcz198_1 : w120.cell? ⟨gb314, 1, none⟩ = some (.int .i64 0) := (blk_cell BK314.out 1).trans rfl
              have hcz198_2 : w120.cell? ⟨gb314, 2, none⟩ = some (.int .i64 0) := (blk_cell BK314.out 2).trans rfl
              have hfz198_0 := blk_frozen BK314.out 0
              have hfz198_1 := blk_frozen BK314.out 1
              have hfz198_2 := blk_frozen BK314.out 2
              go_wp2
              go_meet
              case rel => exact ⟨_, ((t312 != 1)), (by first | rfl | (simp; done) | (simp [*]; done)), H', ⟨by have := HJ8.out; first | omega | exact Nat.le_refl _⟩, ⟨by (with_reducible repeat (first | refine blk_drewN ?_ _ | refine blk_drew ?_ | refine blk_alloc ?_ _)); refine blk_far ?_ NB283_314.out _; (with_reducible repeat (first | refine blk_drewN ?_ _ | refine blk_drew ?_ | refine blk_alloc ?_ _)); refine blk_far ?_ NB283_314.out _; (with_reducible repeat (first | refine blk_drewN ?_ _ | refine blk_drew ?_ | refine blk_alloc ?_ _)); refine blk_far ?_ NB283_314.out _; (with_reducible repeat (first | refine blk_drewN ?_ _ | refine blk_drew ?_ | refine blk_alloc ?_ _)); exact BK283.out⟩, ⟨by (with_reducible repeat (first | refine blk_drewN ?_ _ | refine blk_drew ?_ | refine blk_alloc ?_ _)); refine blk_far ?_ NB288_314.out _; (with_reducible repeat (first | refine blk_drewN ?_ _ | refine blk_drew ?_ | refine blk_alloc ?_ _)); refine blk_far ?_ NB288_314.out _; (with_reducible repeat (first | refine blk_drewN ?_ _ | refine blk_drew ?_ | refine blk_alloc ?_ _)); refine blk_far ?_ NB288_314.out _; (with_reducible repeat (first | refine blk_drewN ?_ _ | refine blk_drew ?_ | refine blk_alloc ?_ _)); exact BK288.out⟩, ⟨by (with_reducible repeat (first | refine blk_drewN ?_ _ | refine blk_drew ?_ | refine blk_alloc ?_ _)); refine blk_far ?_ NB296_314.out _; (with_reducible repeat (first | refine blk_drewN ?_ _ | refine blk_drew ?_ | refine blk_alloc ?_ _)); refine blk_far ?_ NB296_314.out _; (with_reducible repeat (first | refine blk_drewN ?_ _ | refine blk_drew ?_ | refine blk_alloc ?_ _)); refine blk_far ?_ NB296_314.out _; (with_reducible repeat (first | refine blk_drewN ?_ _ | refine blk_drew ?_ | refine blk_alloc ?_ _)); exact BK296.out⟩, ⟨by (with_reducible repeat (first | refine blk_drewN ?_ _ | refine blk_drew ?_ | refine blk_alloc ?_ _)); refine blk_far ?_ NB301_314.out _; (with_reducible repeat (first | refine blk_drewN ?_ _ | refine blk_drew ?_ | refine blk_alloc ?_ _)); refine blk_far ?_ NB301_314.out _; (with_reducible repeat (first | refine blk_drewN ?_ _ | refine blk_drew ?_ | refine blk_alloc ?_ _)); refine blk_far ?_ NB301_314.out _; (with_reducible repeat (first | refine blk_drewN ?_ _ | refine blk_drew ?_ | refine blk_alloc ?_ _)); exact BK301.out⟩, ⟨by (with_reducible repeat (first | refine blk_drewN ?_ _ | refine blk_drew ?_ | refine blk_alloc ?_ _)); refine blk_far ?_ NB306_314.out _; (with_reducible repeat (first | refine blk_drewN ?_ _ | refine blk_drew ?_ | refine blk_alloc ?_ _)); refine blk_far ?_ NB306_314.out _; (with_reducible repeat (first | refine blk_drewN ?_ _ | refine blk_drew ?_ | refine blk_alloc ?_ _)); refine blk_far ?_ NB306_314.out _; (with_reducible repeat (first | refine blk_drewN ?_ _ | refine blk_drew ?_ | refine blk_alloc ?_ _)); exact BK306.out⟩, ⟨by (with_reducible repeat (first | refine blk_drewN ?_ _ | refine blk_drew ?_ | refine blk_alloc ?_ _)); refine blk_put (cs := #[.int .i64 t310, .int .i64 t311, .int .i64 0]) ?_ 2 _ rfl; (with_reducible repeat (first | refine blk_drewN ?_ _ | refine blk_drew ?_ | refine blk_alloc ?_ _)); refine blk_put (cs := #[.int .i64 t310, .int .i64 0, .int .i64 0]) ?_ 1 _ rfl; (with_reducible repeat (first | refine blk_drewN ?_ _ | refine blk_drew ?_ | refine blk_alloc ?_ _)); refine blk_put (cs := #[.int .i64 0, .int .i64 0, .int .i64 0]) ?_ 0 _ rfl; (with_reducible repeat (first | refine blk_drewN ?_ _ | refine blk_drew ?_ | refine blk_alloc ?_ _)); exact BK314.out⟩, ⟨by repeat (first | (with_reducible first | exact HB.out | apply below_alloc | apply pw_below_drewN | apply below_drew1 | refine below_set ?_ GE283.out | refine below_set ?_ GE288.out | refine below_set ?_ GE296.out | refine below_set ?_ GE301.out | refine below_set ?_ GE306.out | refine below_set ?_ GE314.out) | exact HB.out)⟩⟩
            · rw [if_neg c187] at H
              have c187b0 : (t286 == 7) = false := beq_eq_false_iff_ne.mpr c187
              have c187b1 : (t286 != 7) = true := bne_iff_ne.mpr c187
              have H' := Aside0.mk H
              clear H
              have hnb199 := NB288_283.out
              have hnc199 := NB283_288.out
              have hnb200 := NB288_296.out
              have hnc200 := NB296_288.out
              have hnb201 := NB288_301.out
              have hnc201 := NB301_288.out
              have hnb202 := NB288_306.out
              have hnc202 := NB306_288.out
              have hnb203 := NB288_314.out
              have hnc203 := NB314_288.out
              have hcz204_0 : w120.cell? ⟨gb288, 0, none⟩ = some (.int .i64 t284) := (blk_cell BK288.out 0).trans rfl
              have hcz204_1 : w120.cell? ⟨gb288, 1, none⟩ = some (.int .i64 t285) := (blk_cell BK288.out 1).trans rfl
              have hcz204_2 : w120.cell? ⟨gb288, 2, none⟩ = some (.int .i64 t286) := (blk_cell BK288.out 2).trans rfl
              have hfz204_0 := blk_frozen BK288.out 0
              have hfz204_1 := blk_frozen BK288.out 1
              have hfz204_2 := blk_frozen BK288.out 2
              go_wp2
              go_meet
              case rel => exact ⟨_, (false), (by first | rfl | (simp; done) | (simp [*]; done)), H', ⟨by have := HJ8.out; first | omega | exact Nat.le_refl _⟩, ⟨by (with_reducible repeat (first | refine blk_drewN ?_ _ | refine blk_drew ?_ | refine blk_alloc ?_ _)); refine blk_far ?_ NB283_314.out _; (with_reducible repeat (first | refine blk_drewN ?_ _ | refine blk_drew ?_ | refine blk_alloc ?_ _)); refine blk_far ?_ NB283_314.out _; (with_reducible repeat (first | refine blk_drewN ?_ _ | refine blk_drew ?_ | refine blk_alloc ?_ _)); refine blk_far ?_ NB283_314.out _; (with_reducible repeat (first | refine blk_drewN ?_ _ | refine blk_drew ?_ | refine blk_alloc ?_ _)); exact BK283.out⟩, ⟨by (with_reducible repeat (first | refine blk_drewN ?_ _ | refine blk_drew ?_ | refine blk_alloc ?_ _)); refine blk_far ?_ NB288_314.out _; (with_reducible repeat (first | refine blk_drewN ?_ _ | refine blk_drew ?_ | refine blk_alloc ?_ _)); refine blk_far ?_ NB288_314.out _; (with_reducible repeat (first | refine blk_drewN ?_ _ | refine blk_drew ?_ | refine blk_alloc ?_ _)); refine blk_far ?_ NB288_314.out _; (with_reducible repeat (first | refine blk_drewN ?_ _ | refine blk_drew ?_ | refine blk_alloc ?_ _)); exact BK288.out⟩, ⟨by (with_reducible repeat (first | refine blk_drewN ?_ _ | refine blk_drew ?_ | refine blk_alloc ?_ _)); refine blk_far ?_ NB296_314.out _; (with_reducible repeat (first | refine blk_drewN ?_ _ | refine blk_drew ?_ | refine blk_alloc ?_ _)); refine blk_far ?_ NB296_314.out _; (with_reducible repeat (first | refine blk_drewN ?_ _ | refine blk_drew ?_ | refine blk_alloc ?_ _)); refine blk_far ?_ NB296_314.out _; (with_reducible repeat (first | refine blk_drewN ?_ _ | refine blk_drew ?_ | refine blk_alloc ?_ _)); exact BK296.out⟩, ⟨by (with_reducible repeat (first | refine blk_drewN ?_ _ | refine blk_drew ?_ | refine blk_alloc ?_ _)); refine blk_far ?_ NB301_314.out _; (with_reducible repeat (first | refine blk_drewN ?_ _ | refine blk_drew ?_ | refine blk_alloc ?_ _)); refine blk_far ?_ NB301_314.out _; (with_reducible repeat (first | refine blk_drewN ?_ _ | refine blk_drew ?_ | refine blk_alloc ?_ _)); refine blk_far ?_ NB301_314.out _; (with_reducible repeat (first | refine blk_drewN ?_ _ | refine blk_drew ?_ | refine blk_alloc ?_ _)); exact BK301.out⟩, ⟨by (with_reducible repeat (first | refine blk_drewN ?_ _ | refine blk_drew ?_ | refine blk_alloc ?_ _)); refine blk_far ?_ NB306_314.out _; (with_reducible repeat (first | refine blk_drewN ?_ _ | refine blk_drew ?_ | refine blk_alloc ?_ _)); refine blk_far ?_ NB306_314.out _; (with_reducible repeat (first | refine blk_drewN ?_ _ | refine blk_drew ?_ | refine blk_alloc ?_ _)); refine blk_far ?_ NB306_314.out _; (with_reducible repeat (first | refine blk_drewN ?_ _ | refine blk_drew ?_ | refine blk_alloc ?_ _)); exact BK306.out⟩, ⟨by (with_reducible repeat (first | refine blk_drewN ?_ _ | refine blk_drew ?_ | refine blk_alloc ?_ _)); refine blk_put (cs := #[.int .i64 t310, .int .i64 t311, .int .i64 0]) ?_ 2 _ rfl; (with_reducible repeat (first | refine blk_drewN ?_ _ | refine blk_drew ?_ | refine blk_alloc ?_ _)); refine blk_put (cs := #[.int .i64 t310, .int .i64 0, .int .i64 0]) ?_ 1 _ rfl; (with_reducible repeat (first | refine blk_drewN ?_ _ | refine blk_drew ?_ | refine blk_alloc ?_ _)); refine blk_put (cs := #[.int .i64 0, .int .i64 0, .int .i64 0]) ?_ 0 _ rfl; (with_reducible repeat (first | refine blk_drewN ?_ _ | refine blk_drew ?_ | refine blk_alloc ?_ _)); exact BK314.out⟩, ⟨by repeat (first | (with_reducible first | exact HB.out | apply below_alloc | apply pw_below_drewN | apply below_drew1 | refine below_set ?_ GE283.out | refine below_set ?_ GE288.out | refine below_set ?_ GE296.out | refine below_set ?_ GE301.out | refine below_set ?_ GE306.out | refine below_set ?_ GE314.out) | exact HB.out)⟩⟩
        case rest =>
          clear HC117
          try clear c1
          try clear c2
          try clear p2
          try clear c3
          try clear c4
          try clear c5
          try clear c6
          try clear p6
          try clear c7
          try clear c8
          try clear c9
          try clear c10
          try clear c11
          try clear c12
          try clear c13
          try clear c14
          try clear c15
          try clear c16
          try clear c17
          try clear c18
          try clear c19
          try clear c20
          try clear c21
          try clear c24
          try clear c25
          try clear c26
          try clear c27
          try clear c28
          try clear c33
          try clear c34
          try clear c35
          try clear c36
          try clear c38
          try clear c38b0
          try clear c38b1
          try clear c39
          try clear c39b0
          try clear c39b1
          try clear c40
          try clear c40b0
          try clear c40b1
          try clear c41
          try clear c41b0
          try clear c41b1
          try clear c42
          try clear c42b0
          try clear c43
          try clear c44
          try clear c45
          try clear c46
          try clear c48
          try clear c49
          try clear c50
          try clear c52
          try clear c52b0
          try clear c52b1
          try clear c53
          try clear c53b0
          try clear c53b1
          try clear c54
          try clear c54b0
          try clear c55
          try clear c56
          try clear c57
          try clear c58
          try clear c60
          try clear c61
          try clear c62
          try clear c64
          try clear p64
          try clear c65
          try clear c67
          try clear c70
          try clear c71
          try clear c72
          try clear c73
          try clear c75
          try clear c76
          try clear c77
          try clear c79
          try clear c80
          try clear c82
          try clear c85
          try clear c86
          try clear c87
          try clear c88
          try clear c90
          try clear c91
          try clear c92
          try clear c94
          try clear c95
          try clear c97
          try clear c100
          try clear c101
          try clear c102
          try clear c103
          try clear c105
          try clear c106
          try clear c107
          try clear c109
          try clear c110
          try clear c112
          try clear c114
          try clear c121
          try clear c122
          try clear c123
          try clear c124
          try clear c125
          try clear c127
          try clear c127b0
          try clear c128
          try clear c128b0
          try clear c128b1
          try clear c129
          try clear c129b0
          try clear c129b1
          try clear c130
          try clear c130b0
          try clear c130b1
          try clear c131
          try clear c131b0
          try clear c131b1
          try clear c132
          try clear c133
          try clear c134
          try clear c135
          try clear c136
          try clear c138
          try clear c139
          try clear c140
          try clear c141
          try clear c143
          try clear c144
          try clear c145
          try clear c146
          try clear c147
          try clear c149
          try clear c150
          try clear c151
          try clear c152
          try clear c154
          try clear c155
          try clear c156
          try clear c157
          try clear c158
          try clear c160
          try clear c161
          try clear c162
          try clear c163
          try clear c165
          try clear c166
          try clear c167
          try clear c168
          try clear c169
          try clear c171
          try clear c172
          try clear c173
          try clear c174
          try clear c176
          try clear c177
          try clear c178
          try clear c179
          try clear c180
          try clear c182
          try clear c183
          try clear c184
          try clear c185
          try clear c187
          try clear c187b0
          try clear c187b1
          try clear c188
          try clear c189
          try clear c190
          try clear c191
          try clear c192
          try clear c194
          try clear c195
          try clear c196
          try clear c197
          try clear c199
          try clear c200
          try clear c201
          try clear c202
          try clear c203
          try clear hcz104_0
          try clear hcz104_1
          try clear hcz104_2
          try clear hcz108_0
          try clear hcz108_1
          try clear hcz108_2
          try clear hcz111_0
          try clear hcz111_1
          try clear hcz111_2
          try clear hcz113_0
          try clear hcz113_1
          try clear hcz113_2
          try clear hcz126_0
          try clear hcz126_1
          try clear hcz126_2
          try clear hcz12_0
          try clear hcz12_1
          try clear hcz12_2
          try clear hcz137_0
          try clear hcz137_1
          try clear hcz137_2
          try clear hcz142_0
          try clear hcz142_1
          try clear hcz142_2
          try clear hcz148_0
          try clear hcz148_1
          try clear hcz148_2
          try clear hcz153_0
          try clear hcz153_1
          try clear hcz153_2
          try clear hcz159_0
          try clear hcz159_1
          try clear hcz159_2
          try clear hcz164_0
          try clear hcz164_1
          try clear hcz164_2
          try clear hcz16_0
          try clear hcz16_1
          try clear hcz16_2
          try clear hcz170_0
          try clear hcz170_1
          try clear hcz170_2
          try clear hcz175_0
          try clear hcz175_1
          try clear hcz175_2
          try clear hcz181_0
          try clear hcz181_1
          try clear hcz181_2
          try clear hcz186_0
          try clear hcz186_1
          try clear hcz186_2
          try clear hcz193_0
          try clear hcz193_1
          try clear hcz193_2
          try clear hcz198_0
          try clear hcz198_1
          try clear hcz198_2
          try clear hcz204_0
          try clear hcz204_1
          try clear hcz204_2
          try clear hcz22_0
          try clear hcz22_1
          try clear hcz22_2
          try clear hcz23_0
          try clear hcz23_1
          try clear hcz23_2
          try clear hcz29_0
          try clear hcz29_1
          try clear hcz29_2
          try clear hcz30_0
          try clear hcz30_1
          try clear hcz30_2
          try clear hcz37_0
          try clear hcz37_1
          try clear hcz37_2
          try clear hcz47_0
          try clear hcz47_1
          try clear hcz47_2
          try clear hcz51_0
          try clear hcz51_1
          try clear hcz51_2
          try clear hcz59_0
          try clear hcz59_1
          try clear hcz59_2
          try clear hcz63_0
          try clear hcz63_1
          try clear hcz63_2
          try clear hcz66_0
          try clear hcz66_1
          try clear hcz66_2
          try clear hcz68_0
          try clear hcz68_1
          try clear hcz68_2
          try clear hcz69_0
          try clear hcz69_1
          try clear hcz69_2
          try clear hcz74_0
          try clear hcz74_1
          try clear hcz74_2
          try clear hcz78_0
          try clear hcz78_1
          try clear hcz78_2
          try clear hcz81_0
          try clear hcz81_1
          try clear hcz81_2
          try clear hcz83_0
          try clear hcz83_1
          try clear hcz83_2
          try clear hcz84_0
          try clear hcz84_1
          try clear hcz84_2
          try clear hcz89_0
          try clear hcz89_1
          try clear hcz89_2
          try clear hcz93_0
          try clear hcz93_1
          try clear hcz93_2
          try clear hcz96_0
          try clear hcz96_1
          try clear hcz96_2
          try clear hcz98_0
          try clear hcz98_1
          try clear hcz98_2
          try clear hcz99_0
          try clear hcz99_1
          try clear hcz99_2
          try clear hfz104_0
          try clear hfz104_1
          try clear hfz104_2
          try clear hfz108_0
          try clear hfz108_1
          try clear hfz108_2
          try clear hfz111_0
          try clear hfz111_1
          try clear hfz111_2
          try clear hfz113_0
          try clear hfz113_1
          try clear hfz113_2
          try clear hfz126_0
          try clear hfz126_1
          try clear hfz126_2
          try clear hfz12_0
          try clear hfz12_1
          try clear hfz12_2
          try clear hfz137_0
          try clear hfz137_1
          try clear hfz137_2
          try clear hfz142_0
          try clear hfz142_1
          try clear hfz142_2
          try clear hfz148_0
          try clear hfz148_1
          try clear hfz148_2
          try clear hfz153_0
          try clear hfz153_1
          try clear hfz153_2
          try clear hfz159_0
          try clear hfz159_1
          try clear hfz159_2
          try clear hfz164_0
          try clear hfz164_1
          try clear hfz164_2
          try clear hfz16_0
          try clear hfz16_1
          try clear hfz16_2
          try clear hfz170_0
          try clear hfz170_1
          try clear hfz170_2
          try clear hfz175_0
          try clear hfz175_1
          try clear hfz175_2
          try clear hfz181_0
          try clear hfz181_1
          try clear hfz181_2
          try clear hfz186_0
          try clear hfz186_1
          try clear hfz186_2
          try clear hfz193_0
          try clear hfz193_1
          try clear hfz193_2
          try clear hfz198_0
          try clear hfz198_1
          try clear hfz198_2
          try clear hfz204_0
          try clear hfz204_1
          try clear hfz204_2
          try clear hfz22_0
          try clear hfz22_1
          try clear hfz22_2
          try clear hfz23_0
          try clear hfz23_1
          try clear hfz23_2
          try clear hfz29_0
          try clear hfz29_1
          try clear hfz29_2
          try clear hfz30_0
          try clear hfz30_1
          try clear hfz30_2
          try clear hfz37_0
          try clear hfz37_1
          try clear hfz37_2
          try clear hfz47_0
          try clear hfz47_1
          try clear hfz47_2
          try clear hfz51_0
          try clear hfz51_1
          try clear hfz51_2
          try clear hfz59_0
          try clear hfz59_1
          try clear hfz59_2
          try clear hfz63_0
          try clear hfz63_1
          try clear hfz63_2
          try clear hfz66_0
          try clear hfz66_1
          try clear hfz66_2
          try clear hfz68_0
          try clear hfz68_1
          try clear hfz68_2
          try clear hfz69_0
          try clear hfz69_1
          try clear hfz69_2
          try clear hfz74_0
          try clear hfz74_1
          try clear hfz74_2
          try clear hfz78_0
          try clear hfz78_1
          try clear hfz78_2
          try clear hfz81_0
          try clear hfz81_1
          try clear hfz81_2
          try clear hfz83_0
          try clear hfz83_1
          try clear hfz83_2
          try clear hfz84_0
          try clear hfz84_1
          try clear hfz84_2
          try clear hfz89_0
          try clear hfz89_1
          try clear hfz89_2
          try clear hfz93_0
          try clear hfz93_1
          try clear hfz93_2
          try clear hfz96_0
          try clear hfz96_1
          try clear hfz96_2
          try clear hfz98_0
          try clear hfz98_1
          try clear hfz98_2
          try clear hfz99_0
          try clear hfz99_1
          try clear hfz99_2
          try clear p2
          try clear p6
          try clear p64
          obtain ⟨kq, x128_116, rfl, HA, HJ116, BK283, BK288, BK296, BK301, BK306, BK314, HB⟩ := hcut
          cases kq with
          | zero => exact absurd HA.out (by simp [larderlaw03_CalWeekly.j1])
          | succ kj116 =>
            have H := HA.out
            clear HA
            simp only [larderlaw03_CalWeekly.j1] at H
            by_cases c205 : x128_116 = true
            · subst c205
              have H1 : (some false) = some r := by rw [if_pos rfl] at H; exact H
              clear H
              have H := H1
              clear H1
              obtain rfl := Option.some.inj H
              go_wp2
              go_ret
              exact ⟨by first | rfl | (simp [errW_none, errW_some] <;> rfl) | (simp [*, errW_none, errW_some] <;> rfl), by repeat (first | (with_reducible first | exact HB.out | apply below_alloc | apply pw_below_drewN | apply below_drew1 | refine below_set ?_ GE283.out | refine below_set ?_ GE288.out | refine below_set ?_ GE296.out | refine below_set ?_ GE301.out | refine below_set ?_ GE306.out | refine below_set ?_ GE314.out) | exact HB.out)⟩
            · replace c205 := Bool.eq_false_iff.mpr c205
              subst c205
              have H1 : (if t292 = t284 then (some (t293 == (wrap64 (t285 + 1)))) else (if t292 = (wrap64 (t284 + 1)) then (if t293 = 1 then (if t285 = 52 then (some true) else (some (t285 == 53))) else (some false)) else (some false))) = some r := by rw [if_neg (show ¬ (false = true) by decide)] at H; exact H
              clear H
              have H := H1
              clear H1
              by_cases c206 : t292 = t284
              · rw [if_pos c206] at H
                have c206b0 : (t292 == t284) = true := beq_iff_eq.mpr c206
                have c206b1 : (t292 != t284) = false := bne_eq_false_iff_eq.mpr c206
                clear c206
                obtain rfl := Option.some.inj H
                have hnb207 := NB296_283.out
                have hnc207 := NB283_296.out
                have hnb208 := NB296_288.out
                have hnc208 := NB288_296.out
                have hnb209 := NB296_301.out
                have hnc209 := NB301_296.out
                have hnb210 := NB296_306.out
                have hnc210 := NB306_296.out
                have hnb211 := NB296_314.out
                have hnc211 := NB314_296.out
                have hcz212_0 : wc.cell? ⟨gb296, 0, none⟩ = some (.int .i64 t292) := (blk_cell BK296.out 0).trans rfl
                have hcz212_1 : wc.cell? ⟨gb296, 1, none⟩ = some (.int .i64 t293) := (blk_cell BK296.out 1).trans rfl
                have hcz212_2 : wc.cell? ⟨gb296, 2, none⟩ = some (.int .i64 t294) := (blk_cell BK296.out 2).trans rfl
                have hfz212_0 := blk_frozen BK296.out 0
                have hfz212_1 := blk_frozen BK296.out 1
                have hfz212_2 := blk_frozen BK296.out 2
                have hnb213 := NB288_283.out
                have hnc213 := NB283_288.out
                have hnb214 := NB288_301.out
                have hnc214 := NB301_288.out
                have hnb215 := NB288_306.out
                have hnc215 := NB306_288.out
                have hnb216 := NB288_314.out
                have hnc216 := NB314_288.out
                have hcz217_0 : wc.cell? ⟨gb288, 0, none⟩ = some (.int .i64 t284) := (blk_cell BK288.out 0).trans rfl
                have hcz217_1 : wc.cell? ⟨gb288, 1, none⟩ = some (.int .i64 t285) := (blk_cell BK288.out 1).trans rfl
                have hcz217_2 : wc.cell? ⟨gb288, 2, none⟩ = some (.int .i64 t286) := (blk_cell BK288.out 2).trans rfl
                have hfz217_0 := blk_frozen BK288.out 0
                have hfz217_1 := blk_frozen BK288.out 1
                have hfz217_2 := blk_frozen BK288.out 2
                go_wp2
                go_ret
                exact ⟨by first | rfl | (simp [errW_none, errW_some] <;> rfl) | (simp [*, errW_none, errW_some] <;> rfl), by repeat (first | (with_reducible first | exact HB.out | apply below_alloc | apply pw_below_drewN | apply below_drew1 | refine below_set ?_ GE283.out | refine below_set ?_ GE288.out | refine below_set ?_ GE296.out | refine below_set ?_ GE301.out | refine below_set ?_ GE306.out | refine below_set ?_ GE314.out) | exact HB.out)⟩
              · rw [if_neg c206] at H
                have c206b0 : (t292 == t284) = false := beq_eq_false_iff_ne.mpr c206
                have c206b1 : (t292 != t284) = true := bne_iff_ne.mpr c206
                by_cases c218 : t292 = (wrap64 (t284 + 1))
                · rw [if_pos c218] at H
                  have c218b0 : (t292 == (wrap64 (t284 + 1))) = true := beq_iff_eq.mpr c218
                  have c218b1 : (t292 != (wrap64 (t284 + 1))) = false := bne_eq_false_iff_eq.mpr c218
                  clear c218
                  by_cases c219 : t293 = 1
                  · rw [if_pos c219] at H
                    have c219b0 : (t293 == 1) = true := beq_iff_eq.mpr c219
                    have c219b1 : (t293 != 1) = false := bne_eq_false_iff_eq.mpr c219
                    clear c219
                    by_cases c220 : t285 = 52
                    · rw [if_pos c220] at H
                      have c220b0 : (t285 == 52) = true := beq_iff_eq.mpr c220
                      have c220b1 : (t285 != 52) = false := bne_eq_false_iff_eq.mpr c220
                      clear c220
                      obtain rfl := Option.some.inj H
                      have hnb221 := NB296_283.out
                      have hnc221 := NB283_296.out
                      have hnb222 := NB296_288.out
                      have hnc222 := NB288_296.out
                      have hnb223 := NB296_301.out
                      have hnc223 := NB301_296.out
                      have hnb224 := NB296_306.out
                      have hnc224 := NB306_296.out
                      have hnb225 := NB296_314.out
                      have hnc225 := NB314_296.out
                      have hcz226_0 : wc.cell? ⟨gb296, 0, none⟩ = some (.int .i64 t292) := (blk_cell BK296.out 0).trans rfl
                      have hcz226_1 : wc.cell? ⟨gb296, 1, none⟩ = some (.int .i64 t293) := (blk_cell BK296.out 1).trans rfl
                      have hcz226_2 : wc.cell? ⟨gb296, 2, none⟩ = some (.int .i64 t294) := (blk_cell BK296.out 2).trans rfl
                      have hfz226_0 := blk_frozen BK296.out 0
                      have hfz226_1 := blk_frozen BK296.out 1
                      have hfz226_2 := blk_frozen BK296.out 2
                      have hnb227 := NB288_283.out
                      have hnc227 := NB283_288.out
                      have hnb228 := NB288_301.out
                      have hnc228 := NB301_288.out
                      have hnb229 := NB288_306.out
                      have hnc229 := NB306_288.out
                      have hnb230 := NB288_314.out
                      have hnc230 := NB314_288.out
                      have hcz231_0 : wc.cell? ⟨gb288, 0, none⟩ = some (.int .i64 t284) := (blk_cell BK288.out 0).trans rfl
                      have hcz231_1 : wc.cell? ⟨gb288, 1, none⟩ = some (.int .i64 t285) := (blk_cell BK288.out 1).trans rfl
                      have hcz231_2 : wc.cell? ⟨gb288, 2, none⟩ = some (.int .i64 t286) := (blk_cell BK288.out 2).trans rfl
                      have hfz231_0 := blk_frozen BK288.out 0
                      have hfz231_1 := blk_frozen BK288.out 1
                      have hfz231_2 := blk_frozen BK288.out 2
                      go_wp2
                      go_ret
                      exact ⟨by first | rfl | (simp [errW_none, errW_some] <;> rfl) | (simp [*, errW_none, errW_some] <;> rfl), by repeat (first | (with_reducible first | exact HB.out | apply below_alloc | apply pw_below_drewN | apply below_drew1 | refine below_set ?_ GE283.out | refine below_set ?_ GE288.out | refine below_set ?_ GE296.out | refine below_set ?_ GE301.out | refine below_set ?_ GE306.out | refine below_set ?_ GE314.out) | exact HB.out)⟩
                    · rw [if_neg c220] at H
                      have c220b0 : (t285 == 52) = false := beq_eq_false_iff_ne.mpr c220
                      have c220b1 : (t285 != 52) = true := bne_iff_ne.mpr c220
                      obtain rfl := Option.some.inj H
                      have hnb232 := NB296_283.out
                      have hnc232 := NB283_296.out
                      have hnb233 := NB296_288.out
                      have hnc233 := NB288_296.out
                      have hnb234 := NB296_301.out
                      have hnc234 := NB301_296.out
                      have hnb235 := NB296_306.out
                      have hnc235 := NB306_296.out
                      have hnb236 := NB296_314.out
                      have hnc236 := NB314_296.out
                      have hcz237_0 : wc.cell? ⟨gb296, 0, none⟩ = some (.int .i64 t292) := (blk_cell BK296.out 0).trans rfl
                      have hcz237_1 : wc.cell? ⟨gb296, 1, none⟩ = some (.int .i64 t293) := (blk_cell BK296.out 1).trans rfl
                      have hcz237_2 : wc.cell? ⟨gb296, 2, none⟩ = some (.int .i64 t294) := (blk_cell BK296.out 2).trans rfl
                      have hfz237_0 := blk_frozen BK296.out 0
                      have hfz237_1 := blk_frozen BK296.out 1
                      have hfz237_2 := blk_frozen BK296.out 2
                      have hnb238 := NB288_283.out
                      have hnc238 := NB283_288.out
                      have hnb239 := NB288_301.out
                      have hnc239 := NB301_288.out
                      have hnb240 := NB288_306.out
                      have hnc240 := NB306_288.out
                      have hnb241 := NB288_314.out
                      have hnc241 := NB314_288.out
                      have hcz242_0 : wc.cell? ⟨gb288, 0, none⟩ = some (.int .i64 t284) := (blk_cell BK288.out 0).trans rfl
                      have hcz242_1 : wc.cell? ⟨gb288, 1, none⟩ = some (.int .i64 t285) := (blk_cell BK288.out 1).trans rfl
                      have hcz242_2 : wc.cell? ⟨gb288, 2, none⟩ = some (.int .i64 t286) := (blk_cell BK288.out 2).trans rfl
                      have hfz242_0 := blk_frozen BK288.out 0
                      have hfz242_1 := blk_frozen BK288.out 1
                      have hfz242_2 := blk_frozen BK288.out 2
                      go_wp2
                      go_ret
                      exact ⟨by first | rfl | (simp [errW_none, errW_some] <;> rfl) | (simp [*, errW_none, errW_some] <;> rfl), by repeat (first | (with_reducible first | exact HB.out | apply below_alloc | apply pw_below_drewN | apply below_drew1 | refine below_set ?_ GE283.out | refine below_set ?_ GE288.out | refine below_set ?_ GE296.out | refine below_set ?_ GE301.out | refine below_set ?_ GE306.out | refine below_set ?_ GE314.out) | exact HB.out)⟩
                  · rw [if_neg c219] at H
                    have c219b0 : (t293 == 1) = false := beq_eq_false_iff_ne.mpr c219
                    have c219b1 : (t293 != 1) = true := bne_iff_ne.mpr c219
                    obtain rfl := Option.some.inj H
                    have hnb243 := NB296_283.out
                    have hnc243 := NB283_296.out
                    have hnb244 := NB296_288.out
                    have hnc244 := NB288_296.out
                    have hnb245 := NB296_301.out
                    have hnc245 := NB301_296.out
                    have hnb246 := NB296_306.out
                    have hnc246 := NB306_296.out
                    have hnb247 := NB296_314.out
                    have hnc247 := NB314_296.out
                    have hcz248_0 : wc.cell? ⟨gb296, 0, none⟩ = some (.int .i64 t292) := (blk_cell BK296.out 0).trans rfl
                    have hcz248_1 : wc.cell? ⟨gb296, 1, none⟩ = some (.int .i64 t293) := (blk_cell BK296.out 1).trans rfl
                    have hcz248_2 : wc.cell? ⟨gb296, 2, none⟩ = some (.int .i64 t294) := (blk_cell BK296.out 2).trans rfl
                    have hfz248_0 := blk_frozen BK296.out 0
                    have hfz248_1 := blk_frozen BK296.out 1
                    have hfz248_2 := blk_frozen BK296.out 2
                    have hnb249 := NB288_283.out
                    have hnc249 := NB283_288.out
                    have hnb250 := NB288_301.out
                    have hnc250 := NB301_288.out
                    have hnb251 := NB288_306.out
                    have hnc251 := NB306_288.out
                    have hnb252 := NB288_314.out
                    have hnc252 := NB314_288.out
                    have hcz253_0 : wc.cell? ⟨gb288, 0, none⟩ = some (.int .i64 t284) := (blk_cell BK288.out 0).trans rfl
                    have hcz253_1 : wc.cell? ⟨gb288, 1, none⟩ = some (.int .i64 t285) := (blk_cell BK288.out 1).trans rfl
                    have hcz253_2 : wc.cell? ⟨gb288, 2, none⟩ = some (.int .i64 t286) := (blk_cell BK288.out 2).trans rfl
                    have hfz253_0 := blk_frozen BK288.out 0
                    have hfz253_1 := blk_frozen BK288.out 1
                    have hfz253_2 := blk_frozen BK288.out 2
                    go_wp2
                    go_ret
                    exact ⟨by first | rfl | (simp [errW_none, errW_some] <;> rfl) | (simp [*, errW_none, errW_some] <;> rfl), by repeat (first | (with_reducible first | exact HB.out | apply below_alloc | apply pw_below_drewN | apply below_drew1 | refine below_set ?_ GE283.out | refine below_set ?_ GE288.out | refine below_set ?_ GE296.out | refine below_set ?_ GE301.out | refine below_set ?_ GE306.out | refine below_set ?_ GE314.out) | exact HB.out)⟩
                · rw [if_neg c218] at H
                  have c218b0 : (t292 == (wrap64 (t284 + 1))) = false := beq_eq_false_iff_ne.mpr c218
                  have c218b1 : (t292 != (wrap64 (t284 + 1))) = true := bne_iff_ne.mpr c218
                  obtain rfl := Option.some.inj H
                  have hnb254 := NB296_283.out
                  have hnc254 := NB283_296.out
                  have hnb255 := NB296_288.out
                  have hnc255 := NB288_296.out
                  have hnb256 := NB296_301.out
                  have hnc256 := NB301_296.out
                  have hnb257 := NB296_306.out
                  have hnc257 := NB306_296.out
                  have hnb258 := NB296_314.out
                  have hnc258 := NB314_296.out
                  have hcz259_0 : wc.cell? ⟨gb296, 0, none⟩ = some (.int .i64 t292) := (blk_cell BK296.out 0).trans rfl
                  have hcz259_1 : wc.cell? ⟨gb296, 1, none⟩ = some (.int .i64 t293) := (blk_cell BK296.out 1).trans rfl
                  have hcz259_2 : wc.cell? ⟨gb296, 2, none⟩ = some (.int .i64 t294) := (blk_cell BK296.out 2).trans rfl
                  have hfz259_0 := blk_frozen BK296.out 0
                  have hfz259_1 := blk_frozen BK296.out 1
                  have hfz259_2 := blk_frozen BK296.out 2
                  have hnb260 := NB288_283.out
                  have hnc260 := NB283_288.out
                  have hnb261 := NB288_301.out
                  have hnc261 := NB301_288.out
                  have hnb262 := NB288_306.out
                  have hnc262 := NB306_288.out
                  have hnb263 := NB288_314.out
                  have hnc263 := NB314_288.out
                  have hcz264_0 : wc.cell? ⟨gb288, 0, none⟩ = some (.int .i64 t284) := (blk_cell BK288.out 0).trans rfl
                  have hcz264_1 : wc.cell? ⟨gb288, 1, none⟩ = some (.int .i64 t285) := (blk_cell BK288.out 1).trans rfl
                  have hcz264_2 : wc.cell? ⟨gb288, 2, none⟩ = some (.int .i64 t286) := (blk_cell BK288.out 2).trans rfl
                  have hfz264_0 := blk_frozen BK288.out 0
                  have hfz264_1 := blk_frozen BK288.out 1
                  have hfz264_2 := blk_frozen BK288.out 2
                  go_wp2
                  go_ret
                  exact ⟨by first | rfl | (simp [errW_none, errW_some] <;> rfl) | (simp [*, errW_none, errW_some] <;> rfl), by repeat (first | (with_reducible first | exact HB.out | apply below_alloc | apply pw_below_drewN | apply below_drew1 | refine below_set ?_ GE283.out | refine below_set ?_ GE288.out | refine below_set ?_ GE296.out | refine below_set ?_ GE301.out | refine below_set ?_ GE306.out | refine below_set ?_ GE314.out) | exact HB.out)⟩

end Go.Proofs.YtofafljfabgpmaaDoor.GC
