/- What cal's 'parts' answers of each form, and what the functions in it do, proved by walking their texts. · What cal's 'parts' answers of each form; the two functions in it that make a day of a year's day or a week's. · Which of some shapes a text has, and the numbers of its digits: what cal's printed 'fits', 'shape' and 'num' and the reference's come to. · What cal's ParseDate answers, as a function of the text; the facts that its walk asks. -/
import Derived.Test.YtiklakkkgmilnaaDoorCalFwkX
import Derived.Test.YtiklakkkgmilnaaDoorVWords
import Derived.WalkKit
import Derived.WalkSmall
import Derived.Deep.QuietTactic
import Derived.BigQuiet
import Derived.Deep.RegionWith
import Derived.Lib.Hide
import Derived.IntWalk
import Derived.Test.YtiklakkkgmilnaaDoorGCxf42
import Derived.Test.YtiklakkkgmilnaaDoorGCxf43
import Derived.LoopN
set_option linter.unusedVariables false
set_option linter.unusedSimpArgs false
namespace Go.Proofs.YtiklakkkgmilnaaDoor.Ext
open Go.RowKit Go.Proofs.YtiklakkkgmilnaaDoorW.PrintWords Go.Proofs.YtiklakkkgmilnaaDoor.PCal Go.Proofs.YtiklakkkgmilnaaDoor.CalP Go.Proofs.YtiklakkkgmilnaaDoor.GC

theorem quiet_d0 {P : Program} {f : FuncId} {args : Array Value} {w : World} {n : Nat} {v : Value}
    (h : Calls P f args (w.drewN n) fun e w' => e = .returned v ∧ Drawn0 (w.drewN n) w') : Calls P f args (w.drewN n) fun e w'' => e = .returned v ∧ ∃ m, w'' = w.drewN m :=
  h.mono fun _ _ ⟨he, ⟨m, hm⟩⟩ => ⟨he, n + m, by rw [hm, World.drewN_drewN]⟩
theorem bcell {W w1 : World} (hb : Below W.heap.size W w1) : (∀ b o, b < W.heap.size → w1.cell? ⟨b, o, none⟩ = W.cell? ⟨b, o, none⟩) ∧ (∀ b o, b < W.heap.size → w1.frozen? ⟨b, o, none⟩ = W.frozen? ⟨b, o, none⟩) :=
  ⟨fun b o h => hb.cell (p := ⟨b, o, none⟩) h, fun b o h => hb.frozen (p := ⟨b, o, none⟩) h⟩
abbrev V3 (y a b : Int) : Value := .agg #[.int .i64 y, .int .i64 a, .int .i64 b]
set_option maxRecDepth 100000 in
set_option maxHeartbeats 1000000 in
theorem month_any (y a b : Int) (w : World) : Calls Tryd.prog 77 #[V3 y a b] w fun e w' => e = .returned (.bool (decide (1 ≤ a ∧ a ≤ 12))) ∧ Below w.heap.size w w' := by
  by_cases h1 : 1 ≤ a
  · have hd : decide (1 ≤ a) = true := decide_eq_true h1
    have E := Lib.hid (show decide (1 ≤ a ∧ a ≤ 12) = decide (a ≤ 12) by simp [h1])
    go_enter Tryd.func77, Tryd.ntmps77
    go_wp2
    all_goals
      go_ret
      exact ⟨by first | rfl | (rw [E.out]; first | done | rfl), (Below.refl _ _).alloc (Nat.le_refl _) _⟩
  · have hd : decide (1 ≤ a) = false := decide_eq_false h1
    have E := Lib.hid (show decide (1 ≤ a ∧ a ≤ 12) = false by simp [h1])
    go_enter Tryd.func77, Tryd.ntmps77
    go_wp2
    go_ret
    exact ⟨by first | rfl | (rw [E.out]; first | done | rfl), (Below.refl _ _).alloc (Nat.le_refl _) _⟩
set_option maxRecDepth 100000 in
set_option maxHeartbeats 1000000 in
theorem ofWeek_any (y a b : Int) (w : World) : Calls Tryd.prog 82 #[V3 y a b] w fun e w' => e = .returned (.bool (decide (1 ≤ b ∧ b ≤ 7))) ∧ Below w.heap.size w w' := by
  by_cases h1 : 1 ≤ b
  · have hd : decide (1 ≤ b) = true := decide_eq_true h1
    have E := Lib.hid (show decide (1 ≤ b ∧ b ≤ 7) = decide (b ≤ 7) by simp [h1])
    go_enter Tryd.func82, Tryd.ntmps82
    go_wp2
    all_goals
      go_ret
      exact ⟨by first | rfl | (rw [E.out]; first | done | rfl), (Below.refl _ _).alloc (Nat.le_refl _) _⟩
  · have hd : decide (1 ≤ b) = false := decide_eq_false h1
    have E := Lib.hid (show decide (1 ≤ b ∧ b ≤ 7) = false by simp [h1])
    go_enter Tryd.func82, Tryd.ntmps82
    go_wp2
    go_ret
    exact ⟨by first | rfl | (rw [E.out]; first | done | rfl), (Below.refl _ _).alloc (Nat.le_refl _) _⟩
set_option maxRecDepth 100000 in
set_option maxHeartbeats 1000000 in
theorem day_any (y a b : Int) (w : World) (hG : GlobOk w) (ha : 1 ≤ a ∧ a ≤ 12) : Calls Tryd.prog 78 #[V3 y a b] w fun e w' => e = .returned (.bool (decide (1 ≤ b ∧ b ≤ dim y a))) ∧ Below w.heap.size w w' := by
  have HF := Lib.hid (daysOf_eq y a ha.1 ha.2)
  have HG := Lib.hid hG
  have HA := Lib.hid ha
  clear hG ha
  by_cases h1 : 1 ≤ b
  · have hd : decide (1 ≤ b) = true := decide_eq_true h1
    have E := Lib.hid (show decide (1 ≤ b ∧ b ≤ dim y a) = decide (b ≤ dim y a) by simp [h1])
    go_enter Tryd.func78, Tryd.ntmps78
    go_wp2
    go_region_with (go_at_call 36; refine (cal_daysOf.calls y a (dim y a) _ (GlobOk.below HG.out (by first | exact (Below.refl _ _).alloc (Nat.le_refl _) _ | exact ((Below.refl _ _).alloc (Nat.le_refl _) _).drew)) HF.out).mono ?_; rintro e w1 ⟨rfl, hb1⟩; have c2 : w1.cell? ⟨w.heap.size, 2, none⟩ = some (.int .i64 b) := ((hb1.cell (p := ⟨w.heap.size, 2, none⟩) (by simp)).trans (blk_cell (blk_new w _) 2)).trans rfl)
    all_goals
      go_wp2
      go_ret
      refine ⟨by first | rfl | (rw [E.out]; first | done | rfl), ?_⟩
      first | exact ((Below.refl _ _).alloc (Nat.le_refl _) _).trans (hb1.mono (by simp)) | exact ((Below.refl _ _).alloc (Nat.le_refl _) _).drew.trans (hb1.mono (by simp))
  · have hd : decide (1 ≤ b) = false := decide_eq_false h1
    have E := Lib.hid (show decide (1 ≤ b ∧ b ≤ dim y a) = false by simp [h1])
    go_enter Tryd.func78, Tryd.ntmps78
    go_wp2
    go_quiet (fail)
    go_wp2
    go_ret
    exact ⟨by first | rfl | (rw [E.out]; first | done | rfl), ((Below.refl _ _).alloc (Nat.le_refl _) _).trans ((Drawn0.below ⟨⟨_, rfl⟩⟩).mono (by simp))⟩
set_option maxRecDepth 100000 in
set_option maxHeartbeats 1000000 in
theorem ofYear_any (y a b : Int) (w : World) (hy : 0 ≤ y ∧ y ≤ 9999) : Calls Tryd.prog 79 #[V3 y a b] w fun e w' => e = .returned (.bool (decide (1 ≤ a ∧ a ≤ beg (y + 1) - beg y))) ∧ Below w.heap.size w w' := by
  have HF1 := Lib.hid (begin_eq (y + 1) (by omega) (by omega))
  have HF2 := Lib.hid (begin_eq y (by omega) (by omega))
  have hb1 := beg_bd (y + 1) (by omega) (by omega)
  have hb2 := beg_bd y (by omega) (by omega)
  obtain ⟨hy1, hy2⟩ := hy
  by_cases h1 : 1 ≤ a
  · have hd : decide (1 ≤ a) = true := decide_eq_true h1
    have E := Lib.hid (show decide (1 ≤ a ∧ a ≤ beg (y + 1) - beg y) = decide (a ≤ beg (y + 1) - beg y) by simp [h1])
    generalize beg (y + 1) = p at *
    generalize beg y = q at *
    have HC1 := Lib.hid (fun W => cal_begin.calls (y + 1) p W HF1.out)
    have HC2 := Lib.hid (fun W => cal_begin.calls y q W HF2.out)
    have e1 : IntKind.i64.wrap (y + 1) = y + 1 := IntWalk.i64_in _ (by omega)
    have e2 : IntKind.i64.wrap (p - q) = p - q := IntWalk.i64_in _ (by omega)
    go_enter Tryd.func79, Tryd.ntmps79
    go_wp2
    go_quiet ((go_at_call 71; first | (with_reducible exact quiet_d0 (HC1.out _)) | (with_reducible exact quiet_d0 (HC2.out _))))
    go_wp2
    go_ret
    exact ⟨by first | rfl | (rw [E.out]; first | done | rfl), ((Below.refl _ _).alloc (Nat.le_refl _) _).trans ((Drawn0.below ⟨⟨_, rfl⟩⟩).mono (by simp))⟩
  · have hd : decide (1 ≤ a) = false := decide_eq_false h1
    have E := Lib.hid (show decide (1 ≤ a ∧ a ≤ beg (y + 1) - beg y) = false by simp [h1])
    go_enter Tryd.func79, Tryd.ntmps79
    go_wp2
    go_quiet (fail)
    go_wp2
    go_ret
    exact ⟨by first | rfl | (rw [E.out]; first | done | rfl), ((Below.refl _ _).alloc (Nat.le_refl _) _).trans ((Drawn0.below ⟨⟨_, rfl⟩⟩).mono (by simp))⟩
set_option maxRecDepth 100000 in
set_option maxHeartbeats 1000000 in
theorem week_any (y a b : Int) (w : World) (hy : -1 ≤ y ∧ y ≤ 9999) : Calls Tryd.prog 80 #[V3 y a b] w fun e w' => e = .returned (.bool (decide (1 ≤ a ∧ a ≤ wks y))) ∧ Below w.heap.size w w' := by
  have HF1 := Lib.hid (weeks_eq y (by omega) (by omega))
  by_cases h1 : 1 ≤ a
  · have hd : decide (1 ≤ a) = true := decide_eq_true h1
    have E := Lib.hid (show decide (1 ≤ a ∧ a ≤ wks y) = decide (a ≤ wks y) by simp [h1])
    generalize wks y = p at *
    go_enter Tryd.func80, Tryd.ntmps80
    go_wp2
    go_quiet ((go_at_call 81; exact quiet_d0 (cal_weeks.calls y p _ HF1.out)))
    go_wp2
    go_ret
    exact ⟨by first | rfl | (rw [E.out]; first | done | rfl), ((Below.refl _ _).alloc (Nat.le_refl _) _).trans ((Drawn0.below ⟨⟨_, rfl⟩⟩).mono (by simp))⟩
  · have hd : decide (1 ≤ a) = false := decide_eq_false h1
    have E := Lib.hid (show decide (1 ≤ a ∧ a ≤ wks y) = false by simp [h1])
    go_enter Tryd.func80, Tryd.ntmps80
    go_wp2
    go_quiet (fail)
    go_wp2
    go_ret
    exact ⟨by first | rfl | (rw [E.out]; first | done | rfl), ((Below.refl _ _).alloc (Nat.le_refl _) _).trans ((Drawn0.below ⟨⟨_, rfl⟩⟩).mono (by simp))⟩
set_option maxRecDepth 100000 in
set_option maxHeartbeats 1000000 in
theorem byMonth_any (y a b : Int) (w : World) : Calls Tryd.prog 83 #[V3 y a b] w fun e w' => e = .returned (.tuple #[V3 y a b, .int .i64 0]) ∧ Below w.heap.size w w' := by
  go_enter Tryd.func83, Tryd.ntmps83
  go_wp2
  refine bodyPost_ret (v := .tuple #[V3 y a b, .int .i64 0]) (by simp [results, Tryd.results83, go_sem]) rfl ⟨rfl, ?_⟩
  exact ((Below.refl _ _).alloc (Nat.le_refl _) _).alloc (by simp) _
end Go.Proofs.YtiklakkkgmilnaaDoor.Ext
set_option linter.unusedVariables false
set_option linter.unusedSimpArgs false
namespace Go.Proofs.YtiklakkkgmilnaaDoor.Ext
open Go.RowKit Go.Proofs.YtiklakkkgmilnaaDoorW.PrintWords Go.Proofs.YtiklakkkgmilnaaDoor.PCal Go.Proofs.YtiklakkkgmilnaaDoor.CalP Go.Proofs.YtiklakkkgmilnaaDoor.GC

set_option maxRecDepth 100000 in
set_option maxHeartbeats 1000000 in
theorem byYear_any (y a b : Int) (r1 r2 r3 r4 : Int) (w : World) (hG : GlobOk w) (hy : 0 ≤ y ∧ y ≤ 9999) (ha : 0 ≤ a ∧ a ≤ 999) (hr : cal_Of.f 30000 (beg y + a - 1) = some (r1, r2, r3, r4)) :
    Calls Tryd.prog 84 #[V3 y a b] w fun e w' => e = .returned (.tuple #[V3 r1 r2 r3, .int .i64 r4]) ∧ Below w.heap.size w w' := by
  have HF2 := Lib.hid (begin_eq y (by omega) (by omega))
  have hb2 := beg_bd y (by omega) (by omega)
  have HG := Lib.hid hG
  clear hG
  generalize beg y = q at *
  obtain ⟨hy1, hy2⟩ := hy
  have e1 : IntKind.i64.wrap (q + a) = q + a := IntWalk.i64_in _ (by omega)
  have e2 : IntKind.i64.wrap (q + a - 1) = q + a - 1 := IntWalk.i64_in _ (by omega)
  have HR := Lib.hid hr
  clear hr
  go_enter Tryd.func84, Tryd.ntmps84
  go_wp2
  have HB2 := Lib.hid (((Below.refl w.heap.size w).alloc (Nat.le_refl _) (.cells #[.int .i64 y, .int .i64 a, .int .i64 b] 73)).alloc (by simp) (.cells #[.int .i64 0, .int .i64 0, .int .i64 0] 23))
  go_region_with (first | (go_at_call 71; refine (cal_begin.calls y q _ HF2.out).mono ?_; rintro e w1 ⟨rfl, ⟨nd, rfl⟩⟩) | (go_at_call 17; refine (cal_Of.calls 30000 (q + a - 1) r1 r2 r3 r4 _ (GlobOk.below HG.out (by repeat (first | exact HB2.out | apply below_drew1 | apply pw_below_drewN))) HR.out).mono ?_; rintro e w1 ⟨rfl, hb1⟩; obtain ⟨hc, hf⟩ := bcell hb1))
  all_goals
    go_wp2
    refine bodyPost_ret (v := .tuple #[V3 r1 r2 r3, .int .i64 r4]) (by simp [results, Tryd.results84, go_sem, *]) rfl ⟨rfl, ?_⟩
    (repeat refine below_set ?_ (by simp))
    refine below_step (W := _) ?_ hb1
    repeat (first | exact HB2.out | apply below_drew1 | apply pw_below_drewN)
set_option maxRecDepth 100000 in
set_option maxHeartbeats 1000000 in
theorem byWeek_any (y a b : Int) (r1 r2 r3 r4 : Int) (w : World) (hG : GlobOk w) (hr : cal_FromWeek.f 30001 y a b = some (r1, r2, r3, r4)) :
    Calls Tryd.prog 85 #[V3 y a b] w fun e w' => e = .returned (.tuple #[V3 r1 r2 r3, .int .i64 r4]) ∧ Below w.heap.size w w' := by
  have HG := Lib.hid hG
  have HR := Lib.hid hr
  clear hr hG
  go_enter Tryd.func85, Tryd.ntmps85
  go_wp2_with (go_at_call 86; refine (cal_FromWeek.calls 30001 y a b r1 r2 r3 r4 _ (GlobOk.below HG.out (((Below.refl _ _).alloc (Nat.le_refl _) _).alloc (by simp) _)) HR.out).mono ?_; rintro e w1 ⟨rfl, hb1⟩; obtain ⟨hc, hf⟩ := bcell hb1)
  refine bodyPost_ret (v := .tuple #[V3 r1 r2 r3, .int .i64 r4]) (by simp [results, Tryd.results85, go_sem, *]) rfl ⟨rfl, ?_⟩
  (repeat refine below_set ?_ (by simp))
  exact below_step (((Below.refl _ _).alloc (Nat.le_refl _) _).alloc (by simp) _) hb1
abbrev PC0 : Obj := .cells #[.int .i64 5, .int .i64 7, .func (.func 77) #[] #[], .int .i64 8, .int .i64 10, .func (.func 78) #[] #[]] 80
set_option maxRecDepth 100000 in
set_option maxHeartbeats 1000000 in
theorem parts_0 (w : World) : Calls Tryd.prog 44 #[.int .i64 0] w fun e w' => e = .returned (.tuple #[.slice (some ⟨w.heap.size, 0, none⟩) 2 2, .func (.func 83) #[] #[]]) ∧ w' = w.alloc PC0 := by
  go_enter Tryd.func44, Tryd.ntmps44
  go_wp2
  go_ret2
  exact ⟨rfl, rfl⟩
abbrev PC1 : Obj := .cells #[.int .i64 4, .int .i64 6, .func (.func 77) #[] #[], .int .i64 6, .int .i64 8, .func (.func 78) #[] #[]] 80
set_option maxRecDepth 100000 in
set_option maxHeartbeats 1000000 in
theorem parts_1 (w : World) : Calls Tryd.prog 44 #[.int .i64 1] w fun e w' => e = .returned (.tuple #[.slice (some ⟨w.heap.size, 0, none⟩) 2 2, .func (.func 83) #[] #[]]) ∧ w' = w.alloc PC1 := by
  go_enter Tryd.func44, Tryd.ntmps44
  go_wp2
  go_ret2
  exact ⟨rfl, rfl⟩
abbrev PC2 : Obj := .cells #[.int .i64 5, .int .i64 8, .func (.func 79) #[] #[]] 80
set_option maxRecDepth 100000 in
set_option maxHeartbeats 1000000 in
theorem parts_2 (w : World) : Calls Tryd.prog 44 #[.int .i64 2] w fun e w' => e = .returned (.tuple #[.slice (some ⟨w.heap.size, 0, none⟩) 1 1, .func (.func 84) #[] #[]]) ∧ w' = w.alloc PC2 := by
  go_enter Tryd.func44, Tryd.ntmps44
  go_wp2
  go_ret2
  exact ⟨rfl, rfl⟩
abbrev PC3 : Obj := .cells #[.int .i64 4, .int .i64 7, .func (.func 79) #[] #[]] 80
set_option maxRecDepth 100000 in
set_option maxHeartbeats 1000000 in
theorem parts_3 (w : World) : Calls Tryd.prog 44 #[.int .i64 3] w fun e w' => e = .returned (.tuple #[.slice (some ⟨w.heap.size, 0, none⟩) 1 1, .func (.func 84) #[] #[]]) ∧ w' = w.alloc PC3 := by
  go_enter Tryd.func44, Tryd.ntmps44
  go_wp2
  go_ret2
  exact ⟨rfl, rfl⟩
abbrev PC4 : Obj := .cells #[.int .i64 6, .int .i64 8, .func (.func 80) #[] #[], .int .i64 9, .int .i64 10, .func (.func 82) #[] #[]] 80
set_option maxRecDepth 100000 in
set_option maxHeartbeats 1000000 in
theorem parts_4 (w : World) : Calls Tryd.prog 44 #[.int .i64 4] w fun e w' => e = .returned (.tuple #[.slice (some ⟨w.heap.size, 0, none⟩) 2 2, .func (.func 85) #[] #[]]) ∧ w' = w.alloc PC4 := by
  go_enter Tryd.func44, Tryd.ntmps44
  go_wp2
  go_ret2
  exact ⟨rfl, rfl⟩
abbrev PC5 : Obj := .cells #[.int .i64 5, .int .i64 7, .func (.func 80) #[] #[], .int .i64 7, .int .i64 8, .func (.func 82) #[] #[]] 80
set_option maxRecDepth 100000 in
set_option maxHeartbeats 1000000 in
theorem parts_5 (w : World) : Calls Tryd.prog 44 #[.int .i64 5] w fun e w' => e = .returned (.tuple #[.slice (some ⟨w.heap.size, 0, none⟩) 2 2, .func (.func 85) #[] #[]]) ∧ w' = w.alloc PC5 := by
  go_enter Tryd.func44, Tryd.ntmps44
  go_wp2
  go_ret2
  exact ⟨rfl, rfl⟩
end Go.Proofs.YtiklakkkgmilnaaDoor.Ext
set_option linter.unusedVariables false
set_option linter.unusedSimpArgs false
namespace Go.Proofs.YtiklakkkgmilnaaDoor.CalP
open Go.RowKit Go.IntWalk Go.Proofs.YtiklakkkgmilnaaDoorW.PrintWords Go.Proofs.YtiklakkkgmilnaaDoor.Ext Go.Proofs.YtiklakkkgmilnaaDoor.GC

theorem wS {i : Int} (h : 0 ≤ i ∧ i ≤ 1000000000000000) : wrap64 (i + 1) = i + 1 := by unfold wrap64; omega
/-- may a byte stand where a shape has this one? -/
def mt (c h : Int) : Bool := if h = 100 then decide (48 ≤ c ∧ c ≤ 57) else if h = 115 then decide (c = 43 ∨ c = 45) else decide (c = h)
def fitN (s h : ByteArray) : Nat → Nat → Nat
  | 0, i => i
  | m + 1, i => if i < s.size ∧ mt (bt s i) (bt h i) = true then fitN s h m (i + 1) else i
/-- how many bytes of a text agree with a shape -/
def fit (s h : ByteArray) : Nat := fitN s h h.size 0
theorem fits_l0 (s h : ByteArray) (hh : h.size ≤ 1000) : ∀ (m i k : Nat), i + m = h.size → 2 * m + 2 ≤ k → cal_fits.l0 k s h i = some (fitN s h m i : Int) := by
  intro m
  induction m with
  | zero =>
    intro i k hi hk
    obtain ⟨k, rfl⟩ : ∃ q, k = q + 2 := ⟨k - 2, by omega⟩
    rw [cal_fits.l0]
    have e : decide ((i : Int) < (h.size : Int)) = false := decide_eq_false (by omega)
    by_cases c : (i : Int) < (s.size : Int)
    · rw [if_pos c, e, cal_fits.j1]; rfl
    · rw [if_neg c, cal_fits.j1]; rfl
  | succ m ih =>
    intro i k hi hk
    obtain ⟨k, rfl⟩ : ∃ q, k = q + 2 := ⟨k - 2, by omega⟩
    have e : decide ((i : Int) < (h.size : Int)) = true := decide_eq_true (by omega)
    have hn := ih (i + 1) k (by omega) (by omega)
    rw [cal_fits.l0, fitN]
    by_cases c : (i : Int) < (s.size : Int)
    · rw [if_pos c, e, cal_fits.j1, if_pos rfl, if_pos (by omega), if_pos c, if_pos (by omega), wS (by omega)]
      have hn' : cal_fits.l0 k s h ((i : Int) + 1) = some (fitN s h m (i + 1) : Int) := hn
      rw [hn']
      unfold mt
      by_cases d : bt h i = 100
      · rw [if_pos d, if_pos d]
        by_cases a1 : bt s i < 48
        · rw [if_pos a1, if_neg (by rintro ⟨_, z⟩; simp at z; omega)]
        · by_cases a2 : bt s i > 57
          · rw [if_neg a1, if_pos a2, if_neg (by rintro ⟨_, z⟩; simp at z; omega)]
          · rw [if_neg a1, if_neg a2, if_pos ⟨by omega, by simp; omega⟩]
      · rw [if_neg d, if_neg d]
        by_cases q : bt h i = 115
        · rw [if_pos q, if_pos q]
          by_cases a1 : bt s i = 43
          · rw [if_pos a1, if_pos ⟨by omega, by simp [a1]⟩]
          · by_cases a2 : bt s i = 45
            · rw [if_neg a1, if_pos a2, if_pos ⟨by omega, by simp [a2]⟩]
            · rw [if_neg a1, if_neg a2, if_neg (by rintro ⟨_, z⟩; simp at z; omega)]
        · rw [if_neg q, if_neg q]
          by_cases a1 : bt s i = bt h i
          · rw [if_pos a1, if_pos ⟨by omega, by simp [a1]⟩]
          · rw [if_neg a1, if_neg (by rintro ⟨_, z⟩; simp at z; exact a1 z)]
    · rw [if_neg c, cal_fits.j1, if_neg (by decide), if_neg (by rintro ⟨z, _⟩; omega)]
theorem fits_eq (k : Nat) (s h : ByteArray) (hh : h.size ≤ 1000) (hk : 2 * h.size + 2 ≤ k) : cal_fits.f k s h = some (fit s h : Int) := fits_l0 s h hh h.size 0 k (by omega) hk
theorem fitN_le (s h : ByteArray) : ∀ (m i : Nat), i + m = h.size → (i ≤ s.size → fitN s h m i ≤ s.size) ∧ i ≤ fitN s h m i ∧ fitN s h m i ≤ h.size ∧ ∀ j, i ≤ j → j < fitN s h m i → mt (bt s j) (bt h j) = true := by
  intro m
  induction m with
  | zero => intro i hi; exact ⟨fun z => z, Nat.le_refl _, by show i ≤ h.size; omega, fun j a b => by simp only [fitN] at b; omega⟩
  | succ m ih =>
    intro i hi
    rw [fitN]
    split
    · rename_i c
      obtain ⟨a, b, c', d⟩ := ih (i + 1) (by omega)
      refine ⟨fun _ => a (by omega), by omega, c', fun j j1 j2 => ?_⟩
      by_cases e : j = i
      · subst e; exact c.2
      · exact d j (by omega) j2
    · exact ⟨fun z => z, Nat.le_refl _, by omega, fun j a b => by omega⟩
theorem fit_le (s h : ByteArray) : fit s h ≤ s.size ∧ fit s h ≤ h.size ∧ ∀ j, j < fit s h → mt (bt s j) (bt h j) = true := by
  obtain ⟨a, b, c, d⟩ := fitN_le s h h.size 0 (by omega)
  exact ⟨a (by omega), c, fun j hj => d j (by omega) hj⟩
/-- the first of some shapes that a text has -/
def shp (s : ByteArray) : List ByteArray → Nat → Int → Int × Int
  | [], _, b => (-1, b)
  | h :: l, i, b => if fit s h = s.size ∧ fit s h = h.size then ((i : Int), 0) else shp s l (i + 1) (mx b (fit s h))
theorem shape_l0 (s : ByteArray) (L : List ByteArray) (hL : L.length ≤ 1000) (hh : ∀ h ∈ L, h.size ≤ 20) : ∀ (m i k : Nat) (b : Int), i + m = L.length → 50 + m ≤ k → cal_shape.l0 k s b L L.length i = some (shp s (L.drop i) i b) := by
  intro m
  induction m with
  | zero =>
    intro i k b hi hk
    obtain ⟨k, rfl⟩ : ∃ q, k = q + 1 := ⟨k - 1, by omega⟩
    rw [cal_shape.l0, if_neg (by omega), List.drop_of_length_le (by omega)]; rfl
  | succ m ih =>
    intro i k b hi hk
    obtain ⟨k, rfl⟩ : ∃ q, k = q + 1 := ⟨k - 1, by omega⟩
    have e : rdOf ByteArray.empty L (i : Int) = L[i]'(by omega) := by
      unfold rdOf
      rw [Int.toNat_natCast, List.getD_eq_getElem?_getD, List.getElem?_eq_getElem (by omega)]; rfl
    have hs := hh (L[i]'(by omega)) (List.getElem_mem _)
    rw [cal_shape.l0, if_pos (by omega), if_pos (by omega), if_pos (by omega), e, fits_eq k s _ (by omega) (by omega), List.drop_eq_getElem_cons (by omega)]
    simp only [Option.bind_some]
    rw [shp]
    have hn := ih (i + 1) k (mx b (fit s (L[i]'(by omega)))) (by omega) (by omega)
    have hn' : cal_shape.l0 k s (mx b (fit s (L[i]'(by omega)))) L L.length ((i : Int) + 1) = some (shp s (L.drop (i + 1)) (i + 1) (mx b (fit s (L[i]'(by omega))))) := hn
    rw [wS (by omega), hn']
    by_cases c1 : fit s (L[i]'(by omega)) = s.size
    · rw [if_pos (by omega)]
      by_cases c2 : fit s (L[i]'(by omega)) = (L[i]'(by omega)).size
      · rw [if_pos (by omega), if_pos ⟨c1, c2⟩]
      · rw [if_neg (by omega), if_neg (fun z => c2 z.2)]
    · rw [if_neg (by omega), if_neg (fun z => c1 z.1)]
theorem shape_eq (k : Nat) (s : ByteArray) (L : List ByteArray) (hL : L.length ≤ 1000) (hh : ∀ h ∈ L, h.size ≤ 20) (hk : 50 + L.length ≤ k) : cal_shape.f k s L = some (shp s L 0 0) :=
  shape_l0 s L hL hh L.length 0 k 0 (by omega) (by omega)
/-- the number of n digits of a text from a place on -/
def nmv (s : ByteArray) (i : Nat) : Nat → Int
  | 0 => 0
  | n + 1 => 10 * nmv s i n + (bt s ((i + n : Nat) : Int) - 48)
theorem nmv_bd (s : ByteArray) (i : Nat) : ∀ n : Nat, (∀ j, i ≤ j → j < i + n → 48 ≤ bt s j ∧ bt s j ≤ 57) → 0 ≤ nmv s i n ∧ nmv s i n < 10 ^ n := by
  intro n
  induction n with
  | zero => intro _; exact ⟨Int.le_refl _, by simp [nmv]⟩
  | succ n ih =>
    intro h
    have a := ih fun j j1 j2 => h j j1 (by omega)
    have b := h (i + n) (by omega) (by omega)
    rw [nmv, Int.pow_succ]
    omega
theorem p10 (n : Nat) (h : n ≤ 15) : (10 : Int) ^ n ≤ 10 ^ 15 := by
  have : (10 : Nat) ^ n ≤ 10 ^ 15 := Nat.pow_le_pow_right (by decide) h
  exact_mod_cast this
theorem num_l0 (t : ByteArray) (ht : t.size ≤ 15) (hd : ∀ j : Nat, j < t.size → 48 ≤ bt t j ∧ bt t j ≤ 57) : ∀ (m i k : Nat), i + m = t.size → m + 1 ≤ k → cal_num.l0 k t (nmv t 0 i) t.size i = some (nmv t 0 t.size) := by
  intro m
  induction m with
  | zero =>
    intro i k hi hk
    obtain ⟨k, rfl⟩ : ∃ q, k = q + 1 := ⟨k - 1, by omega⟩
    rw [cal_num.l0, if_neg (by omega), show i = t.size by omega]
  | succ m ih =>
    intro i k hi hk
    obtain ⟨k, rfl⟩ : ∃ q, k = q + 1 := ⟨k - 1, by omega⟩
    have a := nmv_bd t 0 i (fun j _ j2 => hd j (by omega))
    have b := hd i (by omega)
    have c := p10 i (by omega)
    have e : wrap64 (wrap64 (10 * nmv t 0 i) + (bt t i - 48) % 256) = nmv t 0 (i + 1) := by
      rw [nmv, Nat.zero_add]
      have : wrap64 (10 * nmv t 0 i) = 10 * nmv t 0 i := by unfold wrap64; omega
      rw [this]; unfold wrap64; omega
    rw [cal_num.l0, if_pos (by omega), if_pos (by omega), if_pos (by omega), e, wS (by omega)]
    exact ih (i + 1) k (by omega) (by omega)
theorem num_eq (k : Nat) (t : ByteArray) (ht : t.size ≤ 15) (hd : ∀ j : Nat, j < t.size → 48 ≤ bt t j ∧ bt t j ≤ 57) (hk : t.size + 1 ≤ k) : cal_num.f k t = some (nmv t 0 t.size) :=
  num_l0 t ht hd t.size 0 k (by omega) hk
theorem bt_ext (s : ByteArray) (a b i : Nat) (h : i < b - a) (hb : b ≤ s.size) : bt (s.extract a b) i = bt s ((a + i : Nat) : Int) := by
  have h1 : i < (s.extract a b).size := by rw [ByteArray.size_extract]; omega
  rw [← bt_at (s.extract a b) i h1, ← bt_at s ((a + i : Nat) : Int) (by show a + i < s.size; omega)]
  simp only [Int.toNat_natCast]
  rw [ByteArray.getElem_extract]
theorem nmv_ext (s : ByteArray) (a b : Nat) (hb : b ≤ s.size) : ∀ n : Nat, n ≤ b - a → nmv (s.extract a b) 0 n = nmv s a n := by
  intro n
  induction n with
  | zero => intro _; rfl
  | succ n ih =>
    intro hn
    rw [nmv, nmv, ih (by omega), Nat.zero_add, bt_ext s a b n (by omega) hb]
/-- of a part of a text that is digits -/
theorem num_part (k : Nat) (s : ByteArray) (a b : Nat) (hab : a ≤ b) (hb : b ≤ s.size) (hl : b - a ≤ 15) (hd : ∀ j : Nat, a ≤ j → j < b → 48 ≤ bt s j ∧ bt s j ≤ 57) (hk : 16 ≤ k) : cal_num.f k (s.extract a b) = some (nmv s a (b - a)) := by
  have hz : (s.extract a b).size = b - a := by rw [ByteArray.size_extract]; omega
  rw [num_eq k _ (by omega) (fun j hj => by rw [bt_ext s a b j (by omega) hb]; exact hd (a + j) (by omega) (by omega)) (by omega), hz, nmv_ext s a b hb _ (Nat.le_refl _)]
end Go.Proofs.YtiklakkkgmilnaaDoor.CalP
set_option linter.unusedVariables false
set_option linter.unusedSimpArgs false
namespace Go.Proofs.YtiklakkkgmilnaaDoor.Ext
open Go.RowKit Go.Proofs.YtiklakkkgmilnaaDoorW.PrintWords Go.Proofs.YtiklakkkgmilnaaDoor.PCal Go.Proofs.YtiklakkkgmilnaaDoor.CalP Go.Proofs.YtiklakkkgmilnaaDoor.GC

theorem strs_of_block {w : World} {g t : Nat} {l : List ByteArray} {vs : Array Value} (h : w.heap[g]? = some (.cells vs t (0, 0))) (e : vs = (l.map Value.string).toArray) (hl : l.length ≤ 9223372036854775807) :
    Kd.C Kd.string w (some ⟨g, 0, none⟩) l.length l := by
  subst e
  refine ⟨rfl, hl, fun _ => ⟨_, rfl, fun j p hj => ⟨[.string p], rfl, rfl, fun i u hu => ?_⟩⟩⟩
  cases i with
  | succ i => simp at hu
  | zero =>
    simp only [List.getElem?_cons_zero, Option.some.injEq] at hu
    subst hu
    have e1 : (⟨g, 0, none⟩ : Addr).add (j * Kd.string.sz + 0) = ⟨g, j, none⟩ := by
      have e2 : j * Kd.string.sz + 0 = j := by show j * 1 + 0 = j; omega
      rw [e2]; simp [Addr.add]; omega
    rw [e1, blk_cell h j]
    simp [hj]
abbrev T5 := Int × Int × Int × Int × Int
def SH : List ByteArray := [⟨#[100, 100, 100, 100, 45, 100, 100, 45, 100, 100]⟩, ⟨#[100, 100, 100, 100, 100, 100, 100, 100]⟩, ⟨#[100, 100, 100, 100, 45, 100, 100, 100]⟩, ⟨#[100, 100, 100, 100, 100, 100, 100]⟩,
  ⟨#[100, 100, 100, 100, 45, 87, 100, 100, 45, 100]⟩, ⟨#[100, 100, 100, 100, 87, 100, 100, 100]⟩]
/-- of a call that makes the day -/
def fin4 (r : Option (Int × Int × Int × Int)) : T5 := match r with
  | some (a, b, c, e) => if e = 0 then (a, b, c, 0, 0) else (0, 0, 0, e, 0)
  | none => (0, 0, 0, 0, 0)
def ymR (y a b p q : Int) : T5 := if 1 ≤ a ∧ a ≤ 12 then (if 1 ≤ b ∧ b ≤ dim y a then (y, a, b, 0, 0) else (0, 0, 0, 30, q)) else (0, 0, 0, 30, p)
def ydR (y a p : Int) : T5 := if 1 ≤ a ∧ a ≤ beg (y + 1) - beg y then fin4 (cal_Of.f 30000 (beg y + a - 1)) else (0, 0, 0, 30, p)
def ywR (y a b p q : Int) : T5 := if 1 ≤ a ∧ a ≤ wks y then (if 1 ≤ b ∧ b ≤ 7 then fin4 (cal_FromWeek.f 30001 y a b) else (0, 0, 0, 30, q)) else (0, 0, 0, 30, p)
def dateR (s : ByteArray) (f : Int) : T5 :=
  if f = 0 then ymR (nmv s 0 4) (nmv s 5 2) (nmv s 8 2) 5 8
  else if f = 1 then ymR (nmv s 0 4) (nmv s 4 2) (nmv s 6 2) 4 6
  else if f = 2 then ydR (nmv s 0 4) (nmv s 5 3) 5
  else if f = 3 then ydR (nmv s 0 4) (nmv s 4 3) 4
  else if f = 4 then ywR (nmv s 0 4) (nmv s 6 2) (nmv s 9 1) 6 9
  else ywR (nmv s 0 4) (nmv s 5 2) (nmv s 7 1) 5 7
def cal_ParseDate.f (s : ByteArray) : Option T5 :=
  if s.size > 64 then some (0, 0, 0, 1, 0)
  else if (shp s SH 0 0).1 < 0 then some (0, 0, 0, 31, (shp s SH 0 0).2)
  else some (dateR s (shp s SH 0 0).1)
theorem shp_get (s : ByteArray) : ∀ (L : List ByteArray) (i : Nat) (b : Int), 0 ≤ (shp s L i b).1 → ∃ (j : Nat) (hj : j < L.length), shp s L i b = (((i + j : Nat) : Int), 0) ∧ fit s L[j] = s.size ∧ fit s L[j] = L[j].size := by
  intro L
  induction L with
  | nil => intro i b h; exact absurd h (show ¬ (0 : Int) ≤ -1 by decide)
  | cons h l ih =>
    intro i b hp
    rw [shp] at hp ⊢
    by_cases c : fit s h = s.size ∧ fit s h = h.size
    · rw [if_pos c]
      exact ⟨0, by simp, by simp, c.1, c.2⟩
    · rw [if_neg c] at hp ⊢
      obtain ⟨j, hj, e1, e2, e3⟩ := ih (i + 1) _ hp
      exact ⟨j + 1, by simpa using hj, by rw [e1]; simp; omega, e2, e3⟩
/-- digits where a shape says so -/
theorem dig_of {s h : ByteArray} (hf : fit s h = h.size) (a b : Nat) (hb : b ≤ h.size) (hc : ∀ j, j < b → a ≤ j → bt h j = 100) : ∀ j : Nat, a ≤ j → j < b → 48 ≤ bt s j ∧ bt s j ≤ 57 := by
  intro j j1 j2
  have m := (fit_le s h).2.2 j (by omega)
  unfold CalP.mt at m
  rw [if_pos (hc j j2 j1)] at m
  exact of_decide_eq_true m
theorem num_call (s : ByteArray) (a b : Nat) (hab : a ≤ b) (hb : b ≤ s.size) (hl : b - a ≤ 15) (hd : ∀ j : Nat, a ≤ j → j < b → 48 ≤ bt s j ∧ bt s j ≤ 57) (W : World) :
    Calls Tryd.prog 43 #[.string (s.extract a b)] W fun e w' => e = .returned (.int .i64 (nmv s a (b - a))) ∧ Below W.heap.size W w' :=
  (cal_num.calls 20 _ _ W (num_part 20 s a b hab hb hl hd (by decide))).mono fun _ _ h => ⟨h.1, h.2.below⟩
theorem shape_call (s : ByteArray) (W : World) (g : Nat) (r1 r2 : Int) (hr : shp s SH 0 0 = (r1, r2)) (hg : W.heap[g]? = some (.cells (SH.map Value.string).toArray 9 (0, 0))) :
    Calls Tryd.prog 42 #[.string s, .slice (some ⟨g, 0, none⟩) 6 6] W fun e w' => e = .returned (.tuple #[.int .i64 r1, .int .i64 r2]) ∧ Below W.heap.size W w' :=
  cal_shape.calls 100 s (some ⟨g, 0, none⟩) 6 SH r1 r2 W (strs_of_block hg rfl (by decide)) (by decide) (by
    rw [shape_eq 100 s SH (by decide) (by decide) (by decide), hr])
end Go.Proofs.YtiklakkkgmilnaaDoor.Ext
