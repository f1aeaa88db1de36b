/- FromWeek of package cal, walked by hand. -/
import Derived.Test.YtiklakkkgmilnaaDoorCalWA
import Derived.Test.YtiklakkkgmilnaaDoorCalExt
import Derived.Test.YtiklakkkgmilnaaDoorVWords
import Derived.WalkKit
import Derived.WalkSmall
import Derived.Deep.QuietTactic
import Derived.BigQuiet
import Derived.Deep.RegionWith
import Derived.Lib.Hide
set_option linter.unusedVariables false
set_option linter.unusedSimpArgs false
namespace Go.Proofs.YtiklakkkgmilnaaDoor.Ext
open Go.RowKit Go.Proofs.YtiklakkkgmilnaaDoorW.PrintWords Go.Proofs.YtiklakkkgmilnaaDoor.PCal Go.Proofs.YtiklakkkgmilnaaDoor.CalP Go.Proofs.YtiklakkkgmilnaaDoor.GC

def cal_FromWeek.f (k : Nat) (y w d : Int) : Option (Int × Int × Int × Int) := if fwOk y w d = true then cal_Of.f k (fst_ y + 7 * (w - 1) + d - 1) else some (0, 0, 0, 30)
theorem fromWeek_eq (y w d : Int) (k : Nat) : cal_FromWeek.f k y w d = (if fwOk y w d = true then cal_Of.f k (fst_ y + 7 * (w - 1) + d - 1) else some (0, 0, 0, 30)) := rfl
theorem cfw_ex (y w d : Int) : ∃ r : Int × Int × Int × Int, ∀ k, 30000 ≤ k → cal_FromWeek.f k y w d = some r := by
  cases h : fwOk y w d with
  | true =>
    obtain ⟨r, hr⟩ := cof_ex (fst_ y + 7 * (w - 1) + d - 1)
    exact ⟨r, fun k hk => by rw [fromWeek_eq, if_pos h]; exact hr k hk⟩
  | false => exact ⟨(0, 0, 0, 30), fun k hk => by rw [fromWeek_eq, h, if_neg (by simp)]⟩
theorem fw_quiet {P : Program} {f : FuncId} {args : Array Value} {w : World} {n : Nat} {v : Value}
    (h : Calls P f args (w.drewN n) fun e w' => e = .returned v ∧ Drawn0 (w.drewN n) w') : Calls P f args (w.drewN n) fun e w'' => e = .returned v ∧ ∃ m, w'' = w.drewN m :=
  h.mono fun _ _ ⟨he, ⟨m, hm⟩⟩ => ⟨he, n + m, by rw [hm, World.drewN_drewN]⟩
theorem fw_bcell {W w1 : World} (hb : Below W.heap.size W w1) : (∀ b o, b < W.heap.size → w1.cell? ⟨b, o, none⟩ = W.cell? ⟨b, o, none⟩) ∧ (∀ b o, b < W.heap.size → w1.frozen? ⟨b, o, none⟩ = W.frozen? ⟨b, o, none⟩) :=
  ⟨fun b o h => hb.cell (p := ⟨b, o, none⟩) h, fun b o h => hb.frozen (p := ⟨b, o, none⟩) h⟩
set_option maxRecDepth 100000 in
set_option maxHeartbeats 1000000 in
theorem fw_no1 (y w d : Int) (W : World)  (c1 : y < -1) : Calls Tryd.prog 86 #[.agg #[.int .i64 y, .int .i64 w, .int .i64 d]] W fun e w' => e = .returned (.tuple #[.agg #[.int .i64 0, .int .i64 0, .int .i64 0], .int .i64 30]) ∧ Below W.heap.size W w' := by
  have d1 : decide (y < -1) = true := decide_eq_true c1
  clear c1
  go_enter Tryd.func86, Tryd.ntmps86
  go_wp2
  go_quiet (fail)
  go_wp2
  refine bodyPost_ret (v := .tuple #[.agg #[.int .i64 0, .int .i64 0, .int .i64 0], .int .i64 30]) (by simp [results, Tryd.results86, go_sem, *]) rfl ⟨rfl, ?_⟩
  (repeat refine below_set ?_ (by simp))
  repeat (first | exact ((Below.refl _ _).alloc (Nat.le_refl _) _).alloc (by simp) _ | apply pw_below_drewN)
set_option maxRecDepth 100000 in
set_option maxHeartbeats 1000000 in
theorem fw_no2 (y w d : Int) (W : World) (c1 : ¬ y < -1) (c2 : 9999 < y) : Calls Tryd.prog 86 #[.agg #[.int .i64 y, .int .i64 w, .int .i64 d]] W fun e w' => e = .returned (.tuple #[.agg #[.int .i64 0, .int .i64 0, .int .i64 0], .int .i64 30]) ∧ Below W.heap.size W w' := by
  have d1 : decide (y < -1) = false := decide_eq_false c1
  have d2 : decide (9999 < y) = true := decide_eq_true c2
  clear c1 c2
  go_enter Tryd.func86, Tryd.ntmps86
  go_wp2
  go_quiet (fail)
  go_wp2
  refine bodyPost_ret (v := .tuple #[.agg #[.int .i64 0, .int .i64 0, .int .i64 0], .int .i64 30]) (by simp [results, Tryd.results86, go_sem, *]) rfl ⟨rfl, ?_⟩
  (repeat refine below_set ?_ (by simp))
  repeat (first | exact ((Below.refl _ _).alloc (Nat.le_refl _) _).alloc (by simp) _ | apply pw_below_drewN)
set_option maxRecDepth 100000 in
set_option maxHeartbeats 1000000 in
theorem fw_no3 (y w d : Int) (W : World) (c1 : ¬ y < -1) (c2 : ¬ 9999 < y) (c3 : w < 1) : Calls Tryd.prog 86 #[.agg #[.int .i64 y, .int .i64 w, .int .i64 d]] W fun e w' => e = .returned (.tuple #[.agg #[.int .i64 0, .int .i64 0, .int .i64 0], .int .i64 30]) ∧ Below W.heap.size W w' := by
  have d1 : decide (y < -1) = false := decide_eq_false c1
  have d2 : decide (9999 < y) = false := decide_eq_false c2
  have d3 : decide (w < 1) = true := decide_eq_true c3
  clear c1 c2 c3
  go_enter Tryd.func86, Tryd.ntmps86
  go_wp2
  go_quiet (fail)
  go_wp2
  refine bodyPost_ret (v := .tuple #[.agg #[.int .i64 0, .int .i64 0, .int .i64 0], .int .i64 30]) (by simp [results, Tryd.results86, go_sem, *]) rfl ⟨rfl, ?_⟩
  (repeat refine below_set ?_ (by simp))
  repeat (first | exact ((Below.refl _ _).alloc (Nat.le_refl _) _).alloc (by simp) _ | apply pw_below_drewN)
set_option maxRecDepth 100000 in
set_option maxHeartbeats 1000000 in
theorem fw_no4 (y w d : Int) (W : World) (c1 : ¬ y < -1) (c2 : ¬ 9999 < y) (c3 : ¬ w < 1) (c4 : wks y < w) : Calls Tryd.prog 86 #[.agg #[.int .i64 y, .int .i64 w, .int .i64 d]] W fun e w' => e = .returned (.tuple #[.agg #[.int .i64 0, .int .i64 0, .int .i64 0], .int .i64 30]) ∧ Below W.heap.size W w' := by
  have HW := Lib.hid (fun W' => cal_weeks.calls y (wks y) W' (weeks_eq y (by omega) (by omega)))
  generalize wks y = p at *
  have d1 : decide (y < -1) = false := decide_eq_false c1
  have d2 : decide (9999 < y) = false := decide_eq_false c2
  have d3 : decide (w < 1) = false := decide_eq_false c3
  have d4 : decide (p < w) = true := decide_eq_true c4
  clear c1 c2 c3 c4
  go_enter Tryd.func86, Tryd.ntmps86
  go_wp2
  go_quiet ((go_at_call 81; exact fw_quiet (HW.out _)))
  go_wp2
  refine bodyPost_ret (v := .tuple #[.agg #[.int .i64 0, .int .i64 0, .int .i64 0], .int .i64 30]) (by simp [results, Tryd.results86, go_sem, *]) rfl ⟨rfl, ?_⟩
  (repeat refine below_set ?_ (by simp))
  repeat (first | exact ((Below.refl _ _).alloc (Nat.le_refl _) _).alloc (by simp) _ | apply pw_below_drewN)
set_option maxRecDepth 100000 in
set_option maxHeartbeats 1000000 in
theorem fw_no5 (y w d : Int) (W : World) (c1 : ¬ y < -1) (c2 : ¬ 9999 < y) (c3 : ¬ w < 1) (c4 : ¬ wks y < w) (c5 : d < 1) : Calls Tryd.prog 86 #[.agg #[.int .i64 y, .int .i64 w, .int .i64 d]] W fun e w' => e = .returned (.tuple #[.agg #[.int .i64 0, .int .i64 0, .int .i64 0], .int .i64 30]) ∧ Below W.heap.size W w' := by
  have HW := Lib.hid (fun W' => cal_weeks.calls y (wks y) W' (weeks_eq y (by omega) (by omega)))
  generalize wks y = p at *
  have d1 : decide (y < -1) = false := decide_eq_false c1
  have d2 : decide (9999 < y) = false := decide_eq_false c2
  have d3 : decide (w < 1) = false := decide_eq_false c3
  have d4 : decide (p < w) = false := decide_eq_false c4
  have d5 : decide (d < 1) = true := decide_eq_true c5
  clear c1 c2 c3 c4 c5
  go_enter Tryd.func86, Tryd.ntmps86
  go_wp2
  go_quiet ((go_at_call 81; exact fw_quiet (HW.out _)))
  go_wp2
  refine bodyPost_ret (v := .tuple #[.agg #[.int .i64 0, .int .i64 0, .int .i64 0], .int .i64 30]) (by simp [results, Tryd.results86, go_sem, *]) rfl ⟨rfl, ?_⟩
  (repeat refine below_set ?_ (by simp))
  repeat (first | exact ((Below.refl _ _).alloc (Nat.le_refl _) _).alloc (by simp) _ | apply pw_below_drewN)
set_option maxRecDepth 100000 in
set_option maxHeartbeats 1000000 in
theorem fw_no6 (y w d : Int) (W : World) (c1 : ¬ y < -1) (c2 : ¬ 9999 < y) (c3 : ¬ w < 1) (c4 : ¬ wks y < w) (c5 : ¬ d < 1) (c6 : 7 < d) : Calls Tryd.prog 86 #[.agg #[.int .i64 y, .int .i64 w, .int .i64 d]] W fun e w' => e = .returned (.tuple #[.agg #[.int .i64 0, .int .i64 0, .int .i64 0], .int .i64 30]) ∧ Below W.heap.size W w' := by
  have HW := Lib.hid (fun W' => cal_weeks.calls y (wks y) W' (weeks_eq y (by omega) (by omega)))
  generalize wks y = p at *
  have d1 : decide (y < -1) = false := decide_eq_false c1
  have d2 : decide (9999 < y) = false := decide_eq_false c2
  have d3 : decide (w < 1) = false := decide_eq_false c3
  have d4 : decide (p < w) = false := decide_eq_false c4
  have d5 : decide (d < 1) = false := decide_eq_false c5
  have d6 : decide (7 < d) = true := decide_eq_true c6
  clear c1 c2 c3 c4 c5 c6
  go_enter Tryd.func86, Tryd.ntmps86
  go_wp2
  go_quiet ((go_at_call 81; exact fw_quiet (HW.out _)))
  go_wp2
  refine bodyPost_ret (v := .tuple #[.agg #[.int .i64 0, .int .i64 0, .int .i64 0], .int .i64 30]) (by simp [results, Tryd.results86, go_sem, *]) rfl ⟨rfl, ?_⟩
  (repeat refine below_set ?_ (by simp))
  repeat (first | exact ((Below.refl _ _).alloc (Nat.le_refl _) _).alloc (by simp) _ | apply pw_below_drewN)
set_option maxRecDepth 100000 in
set_option maxHeartbeats 4000000 in
theorem fw_yes (k : Nat) (y w d r1 r2 r3 r4 : Int) (W : World) (hG : GlobOk W) (c1 : ¬ y < -1) (c2 : ¬ 9999 < y) (c3 : ¬ w < 1) (c4 : ¬ wks y < w) (c5 : ¬ d < 1) (c6 : ¬ 7 < d) (hr : cal_Of.f k (fst_ y + 7 * (w - 1) + d - 1) = some (r1, r2, r3, r4)) :
    Calls Tryd.prog 86 #[.agg #[.int .i64 y, .int .i64 w, .int .i64 d]] W fun e w' => e = .returned (.tuple #[.agg #[.int .i64 r1, .int .i64 r2, .int .i64 r3], .int .i64 r4]) ∧ Below W.heap.size W w' := by
  have HW := Lib.hid (fun W' => cal_weeks.calls y (wks y) W' (weeks_eq y (by omega) (by omega)))
  have HB := Lib.hid (fun W' => cal_begin.calls y (beg y) W' (begin_eq y (by omega) (by omega)))
  have bb := beg_in y (by omega) (by omega)
  have wb := wks_bd y
  have db := wd_bd (beg y + 3)
  have HD := Lib.hid (fun W' => cal_weekday.calls (beg y + 3) (wd (beg y + 3)) W' (weekday_eq _ (by omega) (by omega)))
  have HR : Hid (cal_Of.f k (beg y + 3 - wd (beg y + 3) + 7 * (w - 1) + d - 1) = some (r1, r2, r3, r4)) := hr
  have HG := Lib.hid hG
  clear hr hG
  have b2 : w ≤ 53 := by omega
  have d1 : decide (y < -1) = false := decide_eq_false c1
  have d2 : decide (9999 < y) = false := decide_eq_false c2
  have d3 : decide (w < 1) = false := decide_eq_false c3
  have d4 : decide (wks y < w) = false := decide_eq_false c4
  have d5 : decide (d < 1) = false := decide_eq_false c5
  have d6 : decide (7 < d) = false := decide_eq_false c6
  generalize wks y = p at *
  generalize hq : beg y = q at *
  clear hq
  generalize wd (q + 3) = u at *
  have e0 : IntKind.i64.wrap (q + 3) = q + 3 := IntWalk.i64_in _ (by omega)
  have e1 : IntKind.i64.wrap (q + 3 - u) = q + 3 - u := IntWalk.i64_in _ (by omega)
  have e2 : IntKind.i64.wrap (w - 1) = w - 1 := IntWalk.i64_in _ (by omega)
  have e3 : IntKind.i64.wrap (7 * (w - 1)) = 7 * (w - 1) := IntWalk.i64_in _ (by omega)
  have e4 : IntKind.i64.wrap (q + 3 - u + 7 * (w - 1)) = q + 3 - u + 7 * (w - 1) := IntWalk.i64_in _ (by omega)
  have e5 : IntKind.i64.wrap (q + 3 - u + 7 * (w - 1) + d) = q + 3 - u + 7 * (w - 1) + d := IntWalk.i64_in _ (by omega)
  have e6 : IntKind.i64.wrap (q + 3 - u + 7 * (w - 1) + d - 1) = q + 3 - u + 7 * (w - 1) + d - 1 := IntWalk.i64_in _ (by omega)
  have HB2 := Lib.hid (((Below.refl W.heap.size W).alloc (Nat.le_refl _) (.cells #[.int .i64 y, .int .i64 w, .int .i64 d] 86)).alloc (by simp) (.cells #[.int .i64 0, .int .i64 0, .int .i64 0] 23))
  clear c1 c2 c3 c4 c5 c6 b2 bb wb db
  go_enter Tryd.func86, Tryd.ntmps86
  go_wp2
  go_quiet ((go_at_call 81; exact fw_quiet (HW.out _)))
  go_wp2_with (go_at_call 71; refine (HB.out _).mono ?_; rintro e w1 ⟨rfl, ⟨nd1, rfl⟩⟩)
  go_region_with (first | (go_at_call 96; refine (HD.out _).mono ?_; rintro e w1 ⟨rfl, ⟨nd2, rfl⟩⟩) | (go_at_call 17; refine (cal_Of.calls k (q + 3 - u + 7 * (w - 1) + d - 1) r1 r2 r3 r4 _ (GlobOk.below HG.out (by repeat (first | exact HB2.out | apply below_drew1 | apply pw_below_drewN))) HR.out).mono ?_; rintro e w1 ⟨rfl, hb1⟩; obtain ⟨hc, hf⟩ := fw_bcell hb1))
  all_goals
    go_wp2
    refine bodyPost_ret (v := .tuple #[.agg #[.int .i64 r1, .int .i64 r2, .int .i64 r3], .int .i64 r4]) (by simp [results, Tryd.results86, go_sem, *]) rfl ⟨rfl, ?_⟩
    (repeat refine below_set ?_ (by simp))
    refine below_step (W := _) ?_ hb1
    repeat (first | exact HB2.out | apply below_drew1 | apply pw_below_drewN)
theorem cal_FromWeek.calls (k : Nat) (y w d r1 r2 r3 r4 : Int) (W : World) (hG : GlobOk W) (h : cal_FromWeek.f k y w d = some (r1, r2, r3, r4)) :
    Calls Tryd.prog 86 #[.agg #[.int .i64 y, .int .i64 w, .int .i64 d]] W fun e w' => e = .returned (.tuple #[.agg #[.int .i64 r1, .int .i64 r2, .int .i64 r3], .int .i64 r4]) ∧ Below W.heap.size W w' := by
  unfold cal_FromWeek.f at h
  by_cases ok : fwOk y w d = true
  · rw [if_pos ok] at h
    have z := of_decide_eq_true ok
    exact fw_yes k y w d r1 r2 r3 r4 W hG (by omega) (by omega) (by omega) (by omega) (by omega) (by omega) h
  · rw [if_neg ok] at h
    cases h
    have z : ¬ (-1 ≤ y ∧ y ≤ 9999 ∧ 1 ≤ w ∧ w ≤ wks y ∧ 1 ≤ d ∧ d ≤ 7) := fun z => ok (decide_eq_true z)
    by_cases c1 : y < -1
    · exact fw_no1 y w d W c1
    by_cases c2 : 9999 < y
    · exact fw_no2 y w d W c1 c2
    by_cases c3 : w < 1
    · exact fw_no3 y w d W c1 c2 c3
    by_cases c4 : wks y < w
    · exact fw_no4 y w d W c1 c2 c3 c4
    by_cases c5 : d < 1
    · exact fw_no5 y w d W c1 c2 c3 c4 c5
    by_cases c6 : 7 < d
    · exact fw_no6 y w d W c1 c2 c3 c4 c5 c6
    exact absurd ⟨by omega, by omega, by omega, by omega, by omega, by omega⟩ z
end Go.Proofs.YtiklakkkgmilnaaDoor.Ext
