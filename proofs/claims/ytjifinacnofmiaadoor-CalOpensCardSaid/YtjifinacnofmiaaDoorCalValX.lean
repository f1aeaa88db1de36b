/- Valid of package cal, walked by hand. -/
import Derived.Test.YtjifinacnofmiaaDoorCalExt
import Derived.Test.YtjifinacnofmiaaDoorVWords
import Derived.WalkKit
import Derived.WalkSmall
import Derived.Deep.QuietTactic
import Derived.BigQuiet
import Derived.Deep.RegionWith
import Derived.Lib.Hide
set_option linter.unusedVariables false
set_option linter.unusedSimpArgs false
namespace Go.Proofs.YtjifinacnofmiaaDoor.Ext
open Go.RowKit Go.Proofs.YtjifinacnofmiaaDoorW.PrintWords Go.Proofs.YtjifinacnofmiaaDoor.PCal

def cal_Valid.f (y m d : Int) : Option Bool := some (vldB y m d)
theorem vld_no {y m d : Int} (h : ¬ (0 ≤ y ∧ y ≤ 9999 ∧ 1 ≤ m ∧ m ≤ 12 ∧ 1 ≤ d ∧ d ≤ dim y m)) : vldB y m d = false := decide_eq_false h
set_option maxRecDepth 100000 in
set_option maxHeartbeats 1000000 in
theorem valid_no1 (y m d : Int) (w : World)  (c1 : ¬ 0 ≤ y) : Calls Tryd.prog 19 #[.agg #[.int .i64 y, .int .i64 m, .int .i64 d]] w fun e w' => e = .returned (.bool false) ∧ Below w.heap.size w w' := by
  have d1 : decide (0 ≤ y) = false := decide_eq_false c1
  clear c1
  go_enter Tryd.func19, Tryd.ntmps19
  go_wp2
  go_quiet (fail)
  go_wp2
  go_ret
  exact ⟨rfl, ((Below.refl _ _).alloc (Nat.le_refl _) _).trans ((Drawn0.below ⟨⟨_, rfl⟩⟩).mono (by simp))⟩
set_option maxRecDepth 100000 in
set_option maxHeartbeats 1000000 in
theorem valid_no2 (y m d : Int) (w : World) (c1 : 0 ≤ y) (c2 : ¬ y ≤ 9999) : Calls Tryd.prog 19 #[.agg #[.int .i64 y, .int .i64 m, .int .i64 d]] w fun e w' => e = .returned (.bool false) ∧ Below w.heap.size w w' := by
  have d1 : decide (0 ≤ y) = true := decide_eq_true c1
  have d2 : decide (y ≤ 9999) = false := decide_eq_false c2
  clear c1 c2
  go_enter Tryd.func19, Tryd.ntmps19
  go_wp2
  go_quiet (fail)
  go_wp2
  go_ret
  exact ⟨rfl, ((Below.refl _ _).alloc (Nat.le_refl _) _).trans ((Drawn0.below ⟨⟨_, rfl⟩⟩).mono (by simp))⟩
set_option maxRecDepth 100000 in
set_option maxHeartbeats 1000000 in
theorem valid_no3 (y m d : Int) (w : World) (c1 : 0 ≤ y) (c2 : y ≤ 9999) (c3 : ¬ 1 ≤ m) : Calls Tryd.prog 19 #[.agg #[.int .i64 y, .int .i64 m, .int .i64 d]] w fun e w' => e = .returned (.bool false) ∧ Below w.heap.size w w' := by
  have d1 : decide (0 ≤ y) = true := decide_eq_true c1
  have d2 : decide (y ≤ 9999) = true := decide_eq_true c2
  have d3 : decide (1 ≤ m) = false := decide_eq_false c3
  clear c1 c2 c3
  go_enter Tryd.func19, Tryd.ntmps19
  go_wp2
  go_quiet (fail)
  go_wp2
  go_ret
  exact ⟨rfl, ((Below.refl _ _).alloc (Nat.le_refl _) _).trans ((Drawn0.below ⟨⟨_, rfl⟩⟩).mono (by simp))⟩
set_option maxRecDepth 100000 in
set_option maxHeartbeats 1000000 in
theorem valid_no4 (y m d : Int) (w : World) (c1 : 0 ≤ y) (c2 : y ≤ 9999) (c3 : 1 ≤ m) (c4 : ¬ m ≤ 12) : Calls Tryd.prog 19 #[.agg #[.int .i64 y, .int .i64 m, .int .i64 d]] w fun e w' => e = .returned (.bool false) ∧ Below w.heap.size w w' := by
  have d1 : decide (0 ≤ y) = true := decide_eq_true c1
  have d2 : decide (y ≤ 9999) = true := decide_eq_true c2
  have d3 : decide (1 ≤ m) = true := decide_eq_true c3
  have d4 : decide (m ≤ 12) = false := decide_eq_false c4
  clear c1 c2 c3 c4
  go_enter Tryd.func19, Tryd.ntmps19
  go_wp2
  go_quiet (fail)
  go_wp2
  go_ret
  exact ⟨rfl, ((Below.refl _ _).alloc (Nat.le_refl _) _).trans ((Drawn0.below ⟨⟨_, rfl⟩⟩).mono (by simp))⟩
set_option maxRecDepth 100000 in
set_option maxHeartbeats 1000000 in
theorem valid_no5 (y m d : Int) (w : World) (c1 : 0 ≤ y) (c2 : y ≤ 9999) (c3 : 1 ≤ m) (c4 : m ≤ 12) (c5 : ¬ 1 ≤ d) : Calls Tryd.prog 19 #[.agg #[.int .i64 y, .int .i64 m, .int .i64 d]] w fun e w' => e = .returned (.bool false) ∧ Below w.heap.size w w' := by
  have d1 : decide (0 ≤ y) = true := decide_eq_true c1
  have d2 : decide (y ≤ 9999) = true := decide_eq_true c2
  have d3 : decide (1 ≤ m) = true := decide_eq_true c3
  have d4 : decide (m ≤ 12) = true := decide_eq_true c4
  have d5 : decide (1 ≤ d) = false := decide_eq_false c5
  clear c1 c2 c3 c4 c5
  go_enter Tryd.func19, Tryd.ntmps19
  go_wp2
  go_quiet (fail)
  go_wp2
  go_ret
  exact ⟨rfl, ((Below.refl _ _).alloc (Nat.le_refl _) _).trans ((Drawn0.below ⟨⟨_, rfl⟩⟩).mono (by simp))⟩
set_option maxRecDepth 100000 in
set_option maxHeartbeats 4000000 in
theorem valid_yes (y m d : Int) (w : World) (hG : GlobOk w) (c1 : 0 ≤ y) (c2 : y ≤ 9999) (c3 : 1 ≤ m) (c4 : m ≤ 12) (c5 : 1 ≤ d) : Calls Tryd.prog 19 #[.agg #[.int .i64 y, .int .i64 m, .int .i64 d]] w fun e w' => e = .returned (.bool (decide (d ≤ dim y m))) ∧ Below w.heap.size w w' := by
  have HF := Lib.hid (show cal_daysOf.f y m = some (dim y m) by unfold cal_daysOf.f; rw [if_pos ⟨c3, c4⟩])
  have HG := Lib.hid hG
  have d1 : decide (0 ≤ y) = true := decide_eq_true c1
  have d2 : decide (y ≤ 9999) = true := decide_eq_true c2
  have d3 : decide (1 ≤ m) = true := decide_eq_true c3
  have d4 : decide (m ≤ 12) = true := decide_eq_true c4
  have d5 : decide (1 ≤ d) = true := decide_eq_true c5
  clear c1 c2 c3 c4 c5 hG
  generalize dim y m = q at *
  go_enter Tryd.func19, Tryd.ntmps19
  go_wp2
  go_region_with (go_at_call 33; refine (cal_daysOf.calls y m q _ (GlobOk.below HG.out (by first | exact (Below.refl _ _).alloc (Nat.le_refl _) _ | exact ((Below.refl _ _).alloc (Nat.le_refl _) _).drew)) HF.out).mono ?_; rintro e w1 ⟨rfl, hb1⟩; have c2 : w1.cell? ⟨w.heap.size, 2, none⟩ = some (.int .i64 d) := ((hb1.cell (p := ⟨w.heap.size, 2, none⟩) (by simp)).trans (blk_cell (blk_new w _) 2)).trans rfl)
  all_goals
    go_wp2
    go_ret
    refine ⟨rfl, ?_⟩
    first | exact ((Below.refl _ _).alloc (Nat.le_refl _) _).trans (hb1.mono (by simp)) | exact ((Below.refl _ _).alloc (Nat.le_refl _) _).drew.trans (hb1.mono (by simp))
theorem cal_Valid.calls (y m d : Int) (r : Bool) (w : World) (hG : GlobOk w) (h : cal_Valid.f y m d = some r) : Calls Tryd.prog 19 #[.agg #[.int .i64 y, .int .i64 m, .int .i64 d]] w fun e w' => e = .returned (.bool r) ∧ Below w.heap.size w w' := by
  obtain rfl := Option.some.inj h
  by_cases c1 : 0 ≤ y
  · by_cases c2 : y ≤ 9999
    · by_cases c3 : 1 ≤ m
      · by_cases c4 : m ≤ 12
        · by_cases c5 : 1 ≤ d
          · have e : vldB y m d = decide (d ≤ dim y m) := decide_eq_decide.2 ⟨fun z => z.2.2.2.2.2, fun z => ⟨c1, c2, c3, c4, c5, z⟩⟩
            rw [e]; exact valid_yes y m d w hG c1 c2 c3 c4 c5
          · rw [vld_no (fun z => c5 z.2.2.2.2.1)]; exact valid_no5 y m d w c1 c2 c3 c4 c5
        · rw [vld_no (fun z => c4 z.2.2.2.1)]; exact valid_no4 y m d w c1 c2 c3 c4
      · rw [vld_no (fun z => c3 z.2.2.1)]; exact valid_no3 y m d w c1 c2 c3
    · rw [vld_no (fun z => c2 z.2.1)]; exact valid_no2 y m d w c1 c2
  · rw [vld_no (fun z => c1 z.1)]; exact valid_no1 y m d w c1
end Go.Proofs.YtjifinacnofmiaaDoor.Ext
