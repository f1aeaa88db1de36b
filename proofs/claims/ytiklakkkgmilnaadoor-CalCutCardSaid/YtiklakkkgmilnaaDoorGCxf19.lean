-- written by a program (gp.py over the kit's print) for this claim
import Derived.Test.YtiklakkkgmilnaaDoorGCx0
import Derived.Test.YtiklakkkgmilnaaDoorGCxf35
import Derived.Test.YtiklakkkgmilnaaDoorGCxf38
import Derived.Test.YtiklakkkgmilnaaDoorGCxf37
namespace Go.Proofs.YtiklakkkgmilnaaDoor.GC
open Go.RowKit Go.Proofs.YtiklakkkgmilnaaDoorW.PrintWords Go.Proofs.YtiklakkkgmilnaaDoorW.PrintLast Go.Proofs.YtiklakkkgmilnaaDoor.Ext Go.Proofs.YtiklakkkgmilnaaDoor.PCal
attribute [local go_sem] max2_int min2_int max_two min_two   -- for this text alone
set_option linter.unusedVariables false
set_option linter.unusedSimpArgs false

/-! ### cal_PrintInstant: function 19 -/
mutual
def cal_PrintInstant.j0 : Nat → Int → Int → Bool → Option (ByteArray × Int)
 | 0, _, _, _ => none
 | k + 1, x0, x1, x10 => if x10 = true then (some ((⟨#[]⟩ : ByteArray), 35)) else (if x1 < (-1439) then (some ((⟨#[]⟩ : ByteArray), 33)) else (if x1 > 1439 then (some ((⟨#[]⟩ : ByteArray), 33)) else (if (wrap64 (x0 + (wrap64 (60 * x1)))) < 0 then (cal_PrintInstant.j1 k x1 (wrap64 (x0 + (wrap64 (60 * x1)))) true) else (cal_PrintInstant.j1 k x1 (wrap64 (x0 + (wrap64 (60 * x1)))) (decide ((wrap64 (x0 + (wrap64 (60 * x1)))) > 315569519999))))))
def cal_PrintInstant.j1 : Nat → Int → Int → Bool → Option (ByteArray × Int)
 | 0, _, _, _ => none
 | k + 1, x1, x6, x33 => if x33 = true then (some ((⟨#[]⟩ : ByteArray), 35)) else ((cal_date.f k (wrap64 (Int.tdiv x6 86400))).bind fun bt190101 => ((cal_PrintDate.f k bt190101.1 bt190101.2.1 bt190101.2.2 0).bind fun bt190104 => (if bt190104.1.size + 1 ≤ 9223372036854775807 then ((cal_pad.f k (wrap64 (Int.tdiv (Int.tmod x6 86400) 3600)) 2).bind fun t190106 => (if bt190104.1.size + 1 + t190106.size ≤ 9223372036854775807 then (if bt190104.1.size + 1 + t190106.size + 1 ≤ 9223372036854775807 then ((cal_pad.f k (Int.tmod (wrap64 (Int.tdiv (Int.tmod x6 86400) 60)) 60) 2).bind fun t190107 => (if bt190104.1.size + 1 + t190106.size + 1 + t190107.size ≤ 9223372036854775807 then (if bt190104.1.size + 1 + t190106.size + 1 + t190107.size + 1 ≤ 9223372036854775807 then ((cal_pad.f k (Int.tmod (Int.tmod x6 86400) 60) 2).bind fun t190108 => (if bt190104.1.size + 1 + t190106.size + 1 + t190107.size + 1 + t190108.size ≤ 9223372036854775807 then (if x1 = 0 then (if bt190104.1.size + 1 + t190106.size + 1 + t190107.size + 1 + t190108.size + 1 ≤ 9223372036854775807 then (some (((((((bt190104.1 ++ (⟨#[84]⟩ : ByteArray)) ++ t190106) ++ (⟨#[58]⟩ : ByteArray)) ++ t190107) ++ (⟨#[58]⟩ : ByteArray)) ++ t190108) ++ (⟨#[90]⟩ : ByteArray), 0)) else (none)) else (if x1 < 0 then (if bt190104.1.size + 1 + t190106.size + 1 + t190107.size + 1 + t190108.size + 1 ≤ 9223372036854775807 then ((cal_pad.f k (wrap64 (Int.tdiv (wrap64 (-x1)) 60)) 2).bind fun t190109 => (if bt190104.1.size + 1 + t190106.size + 1 + t190107.size + 1 + t190108.size + 1 + t190109.size ≤ 9223372036854775807 then (if bt190104.1.size + 1 + t190106.size + 1 + t190107.size + 1 + t190108.size + 1 + t190109.size + 1 ≤ 9223372036854775807 then ((cal_pad.f k (Int.tmod (wrap64 (-x1)) 60) 2).bind fun t190110 => (if bt190104.1.size + 1 + t190106.size + 1 + t190107.size + 1 + t190108.size + 1 + t190109.size + 1 + t190110.size ≤ 9223372036854775807 then (some ((((((((((bt190104.1 ++ (⟨#[84]⟩ : ByteArray)) ++ t190106) ++ (⟨#[58]⟩ : ByteArray)) ++ t190107) ++ (⟨#[58]⟩ : ByteArray)) ++ t190108) ++ (⟨#[45]⟩ : ByteArray)) ++ t190109) ++ (⟨#[58]⟩ : ByteArray)) ++ t190110, 0)) else (none))) else (none)) else (none))) else (none)) else (if bt190104.1.size + 1 + t190106.size + 1 + t190107.size + 1 + t190108.size + 1 ≤ 9223372036854775807 then ((cal_pad.f k (wrap64 (Int.tdiv x1 60)) 2).bind fun t190111 => (if bt190104.1.size + 1 + t190106.size + 1 + t190107.size + 1 + t190108.size + 1 + t190111.size ≤ 9223372036854775807 then (if bt190104.1.size + 1 + t190106.size + 1 + t190107.size + 1 + t190108.size + 1 + t190111.size + 1 ≤ 9223372036854775807 then ((cal_pad.f k (Int.tmod x1 60) 2).bind fun t190112 => (if bt190104.1.size + 1 + t190106.size + 1 + t190107.size + 1 + t190108.size + 1 + t190111.size + 1 + t190112.size ≤ 9223372036854775807 then (some ((((((((((bt190104.1 ++ (⟨#[84]⟩ : ByteArray)) ++ t190106) ++ (⟨#[58]⟩ : ByteArray)) ++ t190107) ++ (⟨#[58]⟩ : ByteArray)) ++ t190108) ++ (⟨#[43]⟩ : ByteArray)) ++ t190111) ++ (⟨#[58]⟩ : ByteArray)) ++ t190112, 0)) else (none))) else (none)) else (none))) else (none)))) else (none))) else (none)) else (none))) else (none)) else (none))) else (none))))
end
def cal_PrintInstant.f (k : Nat) (a0 : Int) (a1 : Int) : Option (ByteArray × Int) := if a0 < 0 then (cal_PrintInstant.j0 k a0 a1 true) else (cal_PrintInstant.j0 k a0 a1 (decide (a0 > 315569519999)))
theorem cal_PrintInstant.mono_l : ∀ k, (∀ y0 y1 y2, LeO (cal_PrintInstant.j0 k y0 y1 y2) (cal_PrintInstant.j0 (k + 1) y0 y1 y2)) ∧ (∀ y0 y1 y2, LeO (cal_PrintInstant.j1 k y0 y1 y2) (cal_PrintInstant.j1 (k + 1) y0 y1 y2))
 | 0 => ⟨fun _ _ _ r h => by simp [cal_PrintInstant.j0] at h, fun _ _ _ r h => by simp [cal_PrintInstant.j1] at h⟩
 | k + 1 => by
  obtain ⟨ih0, ih1⟩ := cal_PrintInstant.mono_l k
  refine ⟨?_, ?_⟩
  ·intro y0 y1 y2
   unfold cal_PrintInstant.j0
   repeat' first
   | (with_reducible exact ih0 _ _ _)
   | (with_reducible exact ih1 _ _ _)
   | (with_reducible exact cal_PrintDate.mono _ _ _ _ _)
   | (with_reducible exact cal_date.mono _ _)
   | (with_reducible exact cal_pad.mono _ _ _)
   | (with_reducible exact LeO.refl _)
   | (with_reducible exact LeO.none _)
   | (with_reducible refine LeO.ite ?_ ?_)
   | (with_reducible refine LeO.bind ?_ (fun _ => ?_))
   | exact ih0 _ _ _
   | exact ih1 _ _ _
   | exact cal_PrintDate.mono _ _ _ _ _
   | exact cal_date.mono _ _
   | exact cal_pad.mono _ _ _
   | exact LeO.none _
   | refine LeO.ite ?_ ?_
   | refine LeO.bind ?_ (fun _ => ?_)
  ·intro y0 y1 y2
   unfold cal_PrintInstant.j1
   repeat' first
   | (with_reducible exact ih0 _ _ _)
   | (with_reducible exact ih1 _ _ _)
   | (with_reducible exact cal_PrintDate.mono _ _ _ _ _)
   | (with_reducible exact cal_date.mono _ _)
   | (with_reducible exact cal_pad.mono _ _ _)
   | (with_reducible exact LeO.refl _)
   | (with_reducible exact LeO.none _)
   | (with_reducible refine LeO.ite ?_ ?_)
   | (with_reducible refine LeO.bind ?_ (fun _ => ?_))
   | exact ih0 _ _ _
   | exact ih1 _ _ _
   | exact cal_PrintDate.mono _ _ _ _ _
   | exact cal_date.mono _ _
   | exact cal_pad.mono _ _ _
   | exact LeO.none _
   | refine LeO.ite ?_ ?_
   | refine LeO.bind ?_ (fun _ => ?_)
theorem cal_PrintInstant.mono : ∀ a0 a1 k, LeO (cal_PrintInstant.f k a0 a1) (cal_PrintInstant.f (k + 1) a0 a1) := by
 intro a0 a1 k
 obtain ⟨ih0, ih1⟩ := cal_PrintInstant.mono_l k
 unfold cal_PrintInstant.f
 repeat' first
   | (with_reducible exact ih0 _ _ _)
   | (with_reducible exact ih1 _ _ _)
   | (with_reducible exact cal_PrintDate.mono _ _ _ _ _)
   | (with_reducible exact cal_date.mono _ _)
   | (with_reducible exact cal_pad.mono _ _ _)
   | (with_reducible exact LeO.refl _)
   | (with_reducible exact LeO.none _)
   | (with_reducible refine LeO.ite ?_ ?_)
   | (with_reducible refine LeO.bind ?_ (fun _ => ?_))
   | exact ih0 _ _ _
   | exact ih1 _ _ _
   | exact cal_PrintDate.mono _ _ _ _ _
   | exact cal_date.mono _ _
   | exact cal_pad.mono _ _ _
   | exact LeO.none _
   | refine LeO.ite ?_ ?_
   | refine LeO.bind ?_ (fun _ => ?_)
set_option maxHeartbeats 8000000 in
set_option maxRecDepth 100000 in
theorem cal_PrintInstant.calls (k : Nat) (a0 : Int) (a1 : Int) (r1 : ByteArray) (r2 : Int) (w : World) (hG : GlobOk w) (h : cal_PrintInstant.f k a0 a1 = some (r1, r2)) :
  Calls Tryd.prog 19 #[.int .i64 a0, .int .i64 a1] w fun e w' => e = .returned (.tuple #[.string r1, .int .i64 r2]) ∧ Below w.heap.size w w' := by
 have HG := Aside0.mk hG
 clear hG
 have HB := Aside0.mk (Below.refl w.heap.size w)
 have H : (if a0 < 0 then (cal_PrintInstant.j0 k a0 a1 true) else (cal_PrintInstant.j0 k a0 a1 (decide (a0 > 315569519999)))) = some (r1, r2) := h
 clear h
 have HC3 := Aside0.mk H
 clear H
 go_enter Tryd.func19, Tryd.ntmps19
 go_upto_region 1 with (fail)
 go_cut [10] (fun v10 wc => ∃ (kq : Nat) (x10_2 : Bool), v10 = .bool x10_2 ∧ Aside0 (cal_PrintInstant.j0 kq a0 a1 x10_2 = some (r1, r2)) ∧ Aside0 (kq ≤ k) ∧ Aside0 (Below w.heap.size w wc))
 case first =>
  have H := HC3.out
  clear HC3
  by_cases c4 : a0 < 0
  ·rw [if_pos c4] at H
   have c4b0 : decide (a0 < 0) = true := decide_eq_true c4
   clear c4
   (first | rw [c4b0] | (simp only [i64_w, i32_w]; rw [c4b0]) | skip)
   have H' := Aside0.mk H
   clear H
   go_wp2
   go_meet
   case rel => exact ⟨_, (true), (by first | rfl | (simp; done) | (simp [*]; done)), H', ⟨by first | omega | exact Nat.le_refl _⟩, ⟨by repeat (first | (with_reducible first | exact HB.out | apply below_alloc | apply pw_below_drewN | apply below_drew1) | exact HB.out)⟩⟩
  ·rw [if_neg c4] at H
   have c4b0 : decide (a0 < 0) = false := decide_eq_false c4
   clear c4
   (first | rw [c4b0] | (simp only [i64_w, i32_w]; rw [c4b0]) | skip)
   have H' := Aside0.mk H
   clear H
   go_wp2
   go_meet
   case rel => exact ⟨_, (decide (a0 > 315569519999)), (by first | rfl | (simp; done) | (simp [*]; done)), H', ⟨by first | omega | exact Nat.le_refl _⟩, ⟨by repeat (first | (with_reducible first | exact HB.out | apply below_alloc | apply pw_below_drewN | apply below_drew1) | exact HB.out)⟩⟩
 case rest =>
  clear HC3
  try clear c1
  try clear p2
  try clear c4
  try clear c4b0
  obtain ⟨kq, x10_2, rfl, HA, HJ2, HB⟩ := hcut
  cases kq with
  | zero => exact absurd HA.out (by simp [cal_PrintInstant.j0])
  | succ kj2 =>
   have H := HA.out
   clear HA
   simp only [cal_PrintInstant.j0] at H
   by_cases c5 : x10_2 = true
   ·subst c5
    have H1 : (some ((⟨#[]⟩ : ByteArray), 35)) = some (r1, r2) := by rw [if_pos rfl] at H; exact H
    clear H
    have H := H1
    clear H1
    simp only [Option.some.injEq, Prod.mk.injEq] at H
    obtain ⟨rfl, rfl⟩ := H
    go_wp2
    go_ret2
    exact ⟨by first | rfl | (simp [errW_none, errW_some] <;> rfl) | (simp [*, errW_none, errW_some] <;> rfl), by repeat (first | (with_reducible first | exact HB.out | apply below_alloc | apply pw_below_drewN | apply below_drew1) | exact HB.out)⟩
   ·replace c5 := Bool.eq_false_iff.mpr c5
    subst c5
    have H1 : (if a1 < (-1439) then (some ((⟨#[]⟩ : ByteArray), 33)) else (if a1 > 1439 then (some ((⟨#[]⟩ : ByteArray), 33)) else (if (wrap64 (a0 + (wrap64 (60 * a1)))) < 0 then (cal_PrintInstant.j1 kj2 a1 (wrap64 (a0 + (wrap64 (60 * a1)))) true) else (cal_PrintInstant.j1 kj2 a1 (wrap64 (a0 + (wrap64 (60 * a1)))) (decide ((wrap64 (a0 + (wrap64 (60 * a1)))) > 315569519999)))))) = some (r1, r2) := by rw [if_neg (show ¬ (false = true) by decide)] at H; exact H
    clear H
    have H := H1
    clear H1
    by_cases c6 : a1 < (-1439)
    ·rw [if_pos c6] at H
     have c6b0 : decide (a1 < (-1439)) = true := decide_eq_true c6
     clear c6
     simp only [Option.some.injEq, Prod.mk.injEq] at H
     obtain ⟨rfl, rfl⟩ := H
     go_wp2
     go_ret2
     exact ⟨by first | rfl | (simp [errW_none, errW_some] <;> rfl) | (simp [*, errW_none, errW_some] <;> rfl), by repeat (first | (with_reducible first | exact HB.out | apply below_alloc | apply pw_below_drewN | apply below_drew1) | exact HB.out)⟩
    ·rw [if_neg c6] at H
     have c6b0 : decide (a1 < (-1439)) = false := decide_eq_false c6
     clear c6
     by_cases c7 : a1 > 1439
     ·rw [if_pos c7] at H
      have c7b0 : decide (1439 < a1) = true := decide_eq_true c7
      clear c7
      simp only [Option.some.injEq, Prod.mk.injEq] at H
      obtain ⟨rfl, rfl⟩ := H
      go_wp2
      go_ret2
      exact ⟨by first | rfl | (simp [errW_none, errW_some] <;> rfl) | (simp [*, errW_none, errW_some] <;> rfl), by repeat (first | (with_reducible first | exact HB.out | apply below_alloc | apply pw_below_drewN | apply below_drew1) | exact HB.out)⟩
     ·rw [if_neg c7] at H
      have c7b0 : decide (1439 < a1) = false := decide_eq_false c7
      clear c7
      have HC8 := Aside0.mk H
      clear H
      go_upto_region 6 with (fail)
      go_cut [33] (fun v33 wc => ∃ (kq : Nat) (x33_7 : Bool), v33 = .bool x33_7 ∧ Aside0 (cal_PrintInstant.j1 kq a1 (wrap64 (a0 + (wrap64 (60 * a1)))) x33_7 = some (r1, r2)) ∧ Aside0 (kq ≤ kj2) ∧ Aside0 (Below w.heap.size w wc))
      case first =>
       have H := HC8.out
       clear HC8
       by_cases c9 : (wrap64 (a0 + (wrap64 (60 * a1)))) < 0
       ·rw [if_pos c9] at H
        have c9b0 : decide ((wrap64 (a0 + (wrap64 (60 * a1)))) < 0) = true := decide_eq_true c9
        clear c9
        (first | rw [c9b0] | (simp only [i64_w, i32_w]; rw [c9b0]) | skip)
        have H' := Aside0.mk H
        clear H
        go_wp2
        go_meet
        case rel => exact ⟨_, (true), (by first | rfl | (simp; done) | (simp [*]; done)), H', ⟨by have := HJ2.out; first | omega | exact Nat.le_refl _⟩, ⟨by repeat (first | (with_reducible first | exact HB.out | apply below_alloc | apply pw_below_drewN | apply below_drew1) | exact HB.out)⟩⟩
       ·rw [if_neg c9] at H
        have c9b0 : decide ((wrap64 (a0 + (wrap64 (60 * a1)))) < 0) = false := decide_eq_false c9
        clear c9
        (first | rw [c9b0] | (simp only [i64_w, i32_w]; rw [c9b0]) | skip)
        have H' := Aside0.mk H
        clear H
        go_wp2
        go_meet
        case rel => exact ⟨_, (decide ((wrap64 (a0 + (wrap64 (60 * a1)))) > 315569519999)), (by first | rfl | (simp; done) | (simp [*]; done)), H', ⟨by have := HJ2.out; first | omega | exact Nat.le_refl _⟩, ⟨by repeat (first | (with_reducible first | exact HB.out | apply below_alloc | apply pw_below_drewN | apply below_drew1) | exact HB.out)⟩⟩
      case rest =>
       clear HC8
       try clear c1
       try clear p2
       try clear c4
       try clear c4b0
       try clear c5
       try clear c6
       try clear c6b0
       try clear p6
       try clear c7
       try clear c7b0
       try clear c9
       try clear c9b0
       try clear p2
       obtain ⟨kq, x33_7, rfl, HA, HJ7, HB⟩ := hcut
       cases kq with
       | zero => exact absurd HA.out (by simp [cal_PrintInstant.j1])
       | succ kj7 =>
        have H := HA.out
        clear HA
        simp only [cal_PrintInstant.j1] at H
        by_cases c10 : x33_7 = true
        ·subst c10
         have H1 : (some ((⟨#[]⟩ : ByteArray), 35)) = some (r1, r2) := by rw [if_pos rfl] at H; exact H
         clear H
         have H := H1
         clear H1
         simp only [Option.some.injEq, Prod.mk.injEq] at H
         obtain ⟨rfl, rfl⟩ := H
         go_wp2
         go_ret2
         exact ⟨by first | rfl | (simp [errW_none, errW_some] <;> rfl) | (simp [*, errW_none, errW_some] <;> rfl), by repeat (first | (with_reducible first | exact HB.out | apply below_alloc | apply pw_below_drewN | apply below_drew1) | exact HB.out)⟩
        ·replace c10 := Bool.eq_false_iff.mpr c10
         subst c10
         have H1 : ((cal_date.f kj7 (wrap64 (Int.tdiv (wrap64 (a0 + (wrap64 (60 * a1)))) 86400))).bind fun bt190101 => ((cal_PrintDate.f kj7 bt190101.1 bt190101.2.1 bt190101.2.2 0).bind fun bt190104 => (if bt190104.1.size + 1 ≤ 9223372036854775807 then ((cal_pad.f kj7 (wrap64 (Int.tdiv (Int.tmod (wrap64 (a0 + (wrap64 (60 * a1)))) 86400) 3600)) 2).bind fun t190106 => (if bt190104.1.size + 1 + t190106.size ≤ 9223372036854775807 then (if bt190104.1.size + 1 + t190106.size + 1 ≤ 9223372036854775807 then ((cal_pad.f kj7 (Int.tmod (wrap64 (Int.tdiv (Int.tmod (wrap64 (a0 + (wrap64 (60 * a1)))) 86400) 60)) 60) 2).bind fun t190107 => (if bt190104.1.size + 1 + t190106.size + 1 + t190107.size ≤ 9223372036854775807 then (if bt190104.1.size + 1 + t190106.size + 1 + t190107.size + 1 ≤ 9223372036854775807 then ((cal_pad.f kj7 (Int.tmod (Int.tmod (wrap64 (a0 + (wrap64 (60 * a1)))) 86400) 60) 2).bind fun t190108 => (if bt190104.1.size + 1 + t190106.size + 1 + t190107.size + 1 + t190108.size ≤ 9223372036854775807 then (if a1 = 0 then (if bt190104.1.size + 1 + t190106.size + 1 + t190107.size + 1 + t190108.size + 1 ≤ 9223372036854775807 then (some (((((((bt190104.1 ++ (⟨#[84]⟩ : ByteArray)) ++ t190106) ++ (⟨#[58]⟩ : ByteArray)) ++ t190107) ++ (⟨#[58]⟩ : ByteArray)) ++ t190108) ++ (⟨#[90]⟩ : ByteArray), 0)) else (none)) else (if a1 < 0 then (if bt190104.1.size + 1 + t190106.size + 1 + t190107.size + 1 + t190108.size + 1 ≤ 9223372036854775807 then ((cal_pad.f kj7 (wrap64 (Int.tdiv (wrap64 (-a1)) 60)) 2).bind fun t190109 => (if bt190104.1.size + 1 + t190106.size + 1 + t190107.size + 1 + t190108.size + 1 + t190109.size ≤ 9223372036854775807 then (if bt190104.1.size + 1 + t190106.size + 1 + t190107.size + 1 + t190108.size + 1 + t190109.size + 1 ≤ 9223372036854775807 then ((cal_pad.f kj7 (Int.tmod (wrap64 (-a1)) 60) 2).bind fun t190110 => (if bt190104.1.size + 1 + t190106.size + 1 + t190107.size + 1 + t190108.size + 1 + t190109.size + 1 + t190110.size ≤ 9223372036854775807 then (some ((((((((((bt190104.1 ++ (⟨#[84]⟩ : ByteArray)) ++ t190106) ++ (⟨#[58]⟩ : ByteArray)) ++ t190107) ++ (⟨#[58]⟩ : ByteArray)) ++ t190108) ++ (⟨#[45]⟩ : ByteArray)) ++ t190109) ++ (⟨#[58]⟩ : ByteArray)) ++ t190110, 0)) else (none))) else (none)) else (none))) else (none)) else (if bt190104.1.size + 1 + t190106.size + 1 + t190107.size + 1 + t190108.size + 1 ≤ 9223372036854775807 then ((cal_pad.f kj7 (wrap64 (Int.tdiv a1 60)) 2).bind fun t190111 => (if bt190104.1.size + 1 + t190106.size + 1 + t190107.size + 1 + t190108.size + 1 + t190111.size ≤ 9223372036854775807 then (if bt190104.1.size + 1 + t190106.size + 1 + t190107.size + 1 + t190108.size + 1 + t190111.size + 1 ≤ 9223372036854775807 then ((cal_pad.f kj7 (Int.tmod a1 60) 2).bind fun t190112 => (if bt190104.1.size + 1 + t190106.size + 1 + t190107.size + 1 + t190108.size + 1 + t190111.size + 1 + t190112.size ≤ 9223372036854775807 then (some ((((((((((bt190104.1 ++ (⟨#[84]⟩ : ByteArray)) ++ t190106) ++ (⟨#[58]⟩ : ByteArray)) ++ t190107) ++ (⟨#[58]⟩ : ByteArray)) ++ t190108) ++ (⟨#[43]⟩ : ByteArray)) ++ t190111) ++ (⟨#[58]⟩ : ByteArray)) ++ t190112, 0)) else (none))) else (none)) else (none))) else (none)))) else (none))) else (none)) else (none))) else (none)) else (none))) else (none)))) = some (r1, r2) := by rw [if_neg (show ¬ (false = true) by decide)] at H; exact H
         clear H
         have H := H1
         clear H1
         replace H := Option.bind_eq_some_iff.mp H
         obtain ⟨⟨t190101, t190102, t190103⟩, A110, H⟩ := H
         replace H : ((cal_PrintDate.f kj7 t190101 t190102 t190103 0).bind fun bt190104 => (if bt190104.1.size + 1 ≤ 9223372036854775807 then ((cal_pad.f kj7 (wrap64 (Int.tdiv (Int.tmod (wrap64 (a0 + (wrap64 (60 * a1)))) 86400) 3600)) 2).bind fun t190106 => (if bt190104.1.size + 1 + t190106.size ≤ 9223372036854775807 then (if bt190104.1.size + 1 + t190106.size + 1 ≤ 9223372036854775807 then ((cal_pad.f kj7 (Int.tmod (wrap64 (Int.tdiv (Int.tmod (wrap64 (a0 + (wrap64 (60 * a1)))) 86400) 60)) 60) 2).bind fun t190107 => (if bt190104.1.size + 1 + t190106.size + 1 + t190107.size ≤ 9223372036854775807 then (if bt190104.1.size + 1 + t190106.size + 1 + t190107.size + 1 ≤ 9223372036854775807 then ((cal_pad.f kj7 (Int.tmod (Int.tmod (wrap64 (a0 + (wrap64 (60 * a1)))) 86400) 60) 2).bind fun t190108 => (if bt190104.1.size + 1 + t190106.size + 1 + t190107.size + 1 + t190108.size ≤ 9223372036854775807 then (if a1 = 0 then (if bt190104.1.size + 1 + t190106.size + 1 + t190107.size + 1 + t190108.size + 1 ≤ 9223372036854775807 then (some (((((((bt190104.1 ++ (⟨#[84]⟩ : ByteArray)) ++ t190106) ++ (⟨#[58]⟩ : ByteArray)) ++ t190107) ++ (⟨#[58]⟩ : ByteArray)) ++ t190108) ++ (⟨#[90]⟩ : ByteArray), 0)) else (none)) else (if a1 < 0 then (if bt190104.1.size + 1 + t190106.size + 1 + t190107.size + 1 + t190108.size + 1 ≤ 9223372036854775807 then ((cal_pad.f kj7 (wrap64 (Int.tdiv (wrap64 (-a1)) 60)) 2).bind fun t190109 => (if bt190104.1.size + 1 + t190106.size + 1 + t190107.size + 1 + t190108.size + 1 + t190109.size ≤ 9223372036854775807 then (if bt190104.1.size + 1 + t190106.size + 1 + t190107.size + 1 + t190108.size + 1 + t190109.size + 1 ≤ 9223372036854775807 then ((cal_pad.f kj7 (Int.tmod (wrap64 (-a1)) 60) 2).bind fun t190110 => (if bt190104.1.size + 1 + t190106.size + 1 + t190107.size + 1 + t190108.size + 1 + t190109.size + 1 + t190110.size ≤ 9223372036854775807 then (some ((((((((((bt190104.1 ++ (⟨#[84]⟩ : ByteArray)) ++ t190106) ++ (⟨#[58]⟩ : ByteArray)) ++ t190107) ++ (⟨#[58]⟩ : ByteArray)) ++ t190108) ++ (⟨#[45]⟩ : ByteArray)) ++ t190109) ++ (⟨#[58]⟩ : ByteArray)) ++ t190110, 0)) else (none))) else (none)) else (none))) else (none)) else (if bt190104.1.size + 1 + t190106.size + 1 + t190107.size + 1 + t190108.size + 1 ≤ 9223372036854775807 then ((cal_pad.f kj7 (wrap64 (Int.tdiv a1 60)) 2).bind fun t190111 => (if bt190104.1.size + 1 + t190106.size + 1 + t190107.size + 1 + t190108.size + 1 + t190111.size ≤ 9223372036854775807 then (if bt190104.1.size + 1 + t190106.size + 1 + t190107.size + 1 + t190108.size + 1 + t190111.size + 1 ≤ 9223372036854775807 then ((cal_pad.f kj7 (Int.tmod a1 60) 2).bind fun t190112 => (if bt190104.1.size + 1 + t190106.size + 1 + t190107.size + 1 + t190108.size + 1 + t190111.size + 1 + t190112.size ≤ 9223372036854775807 then (some ((((((((((bt190104.1 ++ (⟨#[84]⟩ : ByteArray)) ++ t190106) ++ (⟨#[58]⟩ : ByteArray)) ++ t190107) ++ (⟨#[58]⟩ : ByteArray)) ++ t190108) ++ (⟨#[43]⟩ : ByteArray)) ++ t190111) ++ (⟨#[58]⟩ : ByteArray)) ++ t190112, 0)) else (none))) else (none)) else (none))) else (none)))) else (none))) else (none)) else (none))) else (none)) else (none))) else (none))) = some (r1, r2) := H
         try rw [Int.tmod_tmod_of_dvd _ (by decide)] at A110
         have A11 := Aside0.mk A110
         clear A110
         replace H := Option.bind_eq_some_iff.mp H
         obtain ⟨⟨t190104, t190105⟩, A120, H⟩ := H
         replace H : (if t190104.size + 1 ≤ 9223372036854775807 then ((cal_pad.f kj7 (wrap64 (Int.tdiv (Int.tmod (wrap64 (a0 + (wrap64 (60 * a1)))) 86400) 3600)) 2).bind fun t190106 => (if t190104.size + 1 + t190106.size ≤ 9223372036854775807 then (if t190104.size + 1 + t190106.size + 1 ≤ 9223372036854775807 then ((cal_pad.f kj7 (Int.tmod (wrap64 (Int.tdiv (Int.tmod (wrap64 (a0 + (wrap64 (60 * a1)))) 86400) 60)) 60) 2).bind fun t190107 => (if t190104.size + 1 + t190106.size + 1 + t190107.size ≤ 9223372036854775807 then (if t190104.size + 1 + t190106.size + 1 + t190107.size + 1 ≤ 9223372036854775807 then ((cal_pad.f kj7 (Int.tmod (Int.tmod (wrap64 (a0 + (wrap64 (60 * a1)))) 86400) 60) 2).bind fun t190108 => (if t190104.size + 1 + t190106.size + 1 + t190107.size + 1 + t190108.size ≤ 9223372036854775807 then (if a1 = 0 then (if t190104.size + 1 + t190106.size + 1 + t190107.size + 1 + t190108.size + 1 ≤ 9223372036854775807 then (some (((((((t190104 ++ (⟨#[84]⟩ : ByteArray)) ++ t190106) ++ (⟨#[58]⟩ : ByteArray)) ++ t190107) ++ (⟨#[58]⟩ : ByteArray)) ++ t190108) ++ (⟨#[90]⟩ : ByteArray), 0)) else (none)) else (if a1 < 0 then (if t190104.size + 1 + t190106.size + 1 + t190107.size + 1 + t190108.size + 1 ≤ 9223372036854775807 then ((cal_pad.f kj7 (wrap64 (Int.tdiv (wrap64 (-a1)) 60)) 2).bind fun t190109 => (if t190104.size + 1 + t190106.size + 1 + t190107.size + 1 + t190108.size + 1 + t190109.size ≤ 9223372036854775807 then (if t190104.size + 1 + t190106.size + 1 + t190107.size + 1 + t190108.size + 1 + t190109.size + 1 ≤ 9223372036854775807 then ((cal_pad.f kj7 (Int.tmod (wrap64 (-a1)) 60) 2).bind fun t190110 => (if t190104.size + 1 + t190106.size + 1 + t190107.size + 1 + t190108.size + 1 + t190109.size + 1 + t190110.size ≤ 9223372036854775807 then (some ((((((((((t190104 ++ (⟨#[84]⟩ : ByteArray)) ++ t190106) ++ (⟨#[58]⟩ : ByteArray)) ++ t190107) ++ (⟨#[58]⟩ : ByteArray)) ++ t190108) ++ (⟨#[45]⟩ : ByteArray)) ++ t190109) ++ (⟨#[58]⟩ : ByteArray)) ++ t190110, 0)) else (none))) else (none)) else (none))) else (none)) else (if t190104.size + 1 + t190106.size + 1 + t190107.size + 1 + t190108.size + 1 ≤ 9223372036854775807 then ((cal_pad.f kj7 (wrap64 (Int.tdiv a1 60)) 2).bind fun t190111 => (if t190104.size + 1 + t190106.size + 1 + t190107.size + 1 + t190108.size + 1 + t190111.size ≤ 9223372036854775807 then (if t190104.size + 1 + t190106.size + 1 + t190107.size + 1 + t190108.size + 1 + t190111.size + 1 ≤ 9223372036854775807 then ((cal_pad.f kj7 (Int.tmod a1 60) 2).bind fun t190112 => (if t190104.size + 1 + t190106.size + 1 + t190107.size + 1 + t190108.size + 1 + t190111.size + 1 + t190112.size ≤ 9223372036854775807 then (some ((((((((((t190104 ++ (⟨#[84]⟩ : ByteArray)) ++ t190106) ++ (⟨#[58]⟩ : ByteArray)) ++ t190107) ++ (⟨#[58]⟩ : ByteArray)) ++ t190108) ++ (⟨#[43]⟩ : ByteArray)) ++ t190111) ++ (⟨#[58]⟩ : ByteArray)) ++ t190112, 0)) else (none))) else (none)) else (none))) else (none)))) else (none))) else (none)) else (none))) else (none)) else (none))) else (none)) = some (r1, r2) := H
         try rw [Int.tmod_tmod_of_dvd _ (by decide)] at A120
         have A12 := Aside0.mk A120
         clear A120
         by_cases c13 : t190104.size + 1 ≤ 9223372036854775807
         ·rw [if_pos c13] at H
          have c13b0 := eq_true c13
          have c13b1 : decide (t190104.size + 1 ≤ 9223372036854775807) = true := decide_eq_true c13
          try have c13b2 : (9223372036854775807 < t190104.size + 1) = False := eq_false (Nat.not_lt.2 c13)
          replace H := Option.bind_eq_some_iff.mp H
          obtain ⟨t190106, A140, H⟩ := H
          replace H : (if t190104.size + 1 + t190106.size ≤ 9223372036854775807 then (if t190104.size + 1 + t190106.size + 1 ≤ 9223372036854775807 then ((cal_pad.f kj7 (Int.tmod (wrap64 (Int.tdiv (Int.tmod (wrap64 (a0 + (wrap64 (60 * a1)))) 86400) 60)) 60) 2).bind fun t190107 => (if t190104.size + 1 + t190106.size + 1 + t190107.size ≤ 9223372036854775807 then (if t190104.size + 1 + t190106.size + 1 + t190107.size + 1 ≤ 9223372036854775807 then ((cal_pad.f kj7 (Int.tmod (Int.tmod (wrap64 (a0 + (wrap64 (60 * a1)))) 86400) 60) 2).bind fun t190108 => (if t190104.size + 1 + t190106.size + 1 + t190107.size + 1 + t190108.size ≤ 9223372036854775807 then (if a1 = 0 then (if t190104.size + 1 + t190106.size + 1 + t190107.size + 1 + t190108.size + 1 ≤ 9223372036854775807 then (some (((((((t190104 ++ (⟨#[84]⟩ : ByteArray)) ++ t190106) ++ (⟨#[58]⟩ : ByteArray)) ++ t190107) ++ (⟨#[58]⟩ : ByteArray)) ++ t190108) ++ (⟨#[90]⟩ : ByteArray), 0)) else (none)) else (if a1 < 0 then (if t190104.size + 1 + t190106.size + 1 + t190107.size + 1 + t190108.size + 1 ≤ 9223372036854775807 then ((cal_pad.f kj7 (wrap64 (Int.tdiv (wrap64 (-a1)) 60)) 2).bind fun t190109 => (if t190104.size + 1 + t190106.size + 1 + t190107.size + 1 + t190108.size + 1 + t190109.size ≤ 9223372036854775807 then (if t190104.size + 1 + t190106.size + 1 + t190107.size + 1 + t190108.size + 1 + t190109.size + 1 ≤ 9223372036854775807 then ((cal_pad.f kj7 (Int.tmod (wrap64 (-a1)) 60) 2).bind fun t190110 => (if t190104.size + 1 + t190106.size + 1 + t190107.size + 1 + t190108.size + 1 + t190109.size + 1 + t190110.size ≤ 9223372036854775807 then (some ((((((((((t190104 ++ (⟨#[84]⟩ : ByteArray)) ++ t190106) ++ (⟨#[58]⟩ : ByteArray)) ++ t190107) ++ (⟨#[58]⟩ : ByteArray)) ++ t190108) ++ (⟨#[45]⟩ : ByteArray)) ++ t190109) ++ (⟨#[58]⟩ : ByteArray)) ++ t190110, 0)) else (none))) else (none)) else (none))) else (none)) else (if t190104.size + 1 + t190106.size + 1 + t190107.size + 1 + t190108.size + 1 ≤ 9223372036854775807 then ((cal_pad.f kj7 (wrap64 (Int.tdiv a1 60)) 2).bind fun t190111 => (if t190104.size + 1 + t190106.size + 1 + t190107.size + 1 + t190108.size + 1 + t190111.size ≤ 9223372036854775807 then (if t190104.size + 1 + t190106.size + 1 + t190107.size + 1 + t190108.size + 1 + t190111.size + 1 ≤ 9223372036854775807 then ((cal_pad.f kj7 (Int.tmod a1 60) 2).bind fun t190112 => (if t190104.size + 1 + t190106.size + 1 + t190107.size + 1 + t190108.size + 1 + t190111.size + 1 + t190112.size ≤ 9223372036854775807 then (some ((((((((((t190104 ++ (⟨#[84]⟩ : ByteArray)) ++ t190106) ++ (⟨#[58]⟩ : ByteArray)) ++ t190107) ++ (⟨#[58]⟩ : ByteArray)) ++ t190108) ++ (⟨#[43]⟩ : ByteArray)) ++ t190111) ++ (⟨#[58]⟩ : ByteArray)) ++ t190112, 0)) else (none))) else (none)) else (none))) else (none)))) else (none))) else (none)) else (none))) else (none)) else (none)) = some (r1, r2) := H
          try rw [Int.tmod_tmod_of_dvd _ (by decide)] at A140
          have A14 := Aside0.mk A140
          clear A140
          by_cases c15 : t190104.size + 1 + t190106.size ≤ 9223372036854775807
          ·rw [if_pos c15] at H
           have c15b0 := eq_true c15
           have c15b1 : decide (t190104.size + 1 + t190106.size ≤ 9223372036854775807) = true := decide_eq_true c15
           try have c15b2 : (9223372036854775807 < t190104.size + 1 + t190106.size) = False := eq_false (Nat.not_lt.2 c15)
           by_cases c16 : t190104.size + 1 + t190106.size + 1 ≤ 9223372036854775807
           ·rw [if_pos c16] at H
            have c16b0 := eq_true c16
            have c16b1 : decide (t190104.size + 1 + t190106.size + 1 ≤ 9223372036854775807) = true := decide_eq_true c16
            try have c16b2 : (9223372036854775807 < t190104.size + 1 + t190106.size + 1) = False := eq_false (Nat.not_lt.2 c16)
            replace H := Option.bind_eq_some_iff.mp H
            obtain ⟨t190107, A170, H⟩ := H
            replace H : (if t190104.size + 1 + t190106.size + 1 + t190107.size ≤ 9223372036854775807 then (if t190104.size + 1 + t190106.size + 1 + t190107.size + 1 ≤ 9223372036854775807 then ((cal_pad.f kj7 (Int.tmod (Int.tmod (wrap64 (a0 + (wrap64 (60 * a1)))) 86400) 60) 2).bind fun t190108 => (if t190104.size + 1 + t190106.size + 1 + t190107.size + 1 + t190108.size ≤ 9223372036854775807 then (if a1 = 0 then (if t190104.size + 1 + t190106.size + 1 + t190107.size + 1 + t190108.size + 1 ≤ 9223372036854775807 then (some (((((((t190104 ++ (⟨#[84]⟩ : ByteArray)) ++ t190106) ++ (⟨#[58]⟩ : ByteArray)) ++ t190107) ++ (⟨#[58]⟩ : ByteArray)) ++ t190108) ++ (⟨#[90]⟩ : ByteArray), 0)) else (none)) else (if a1 < 0 then (if t190104.size + 1 + t190106.size + 1 + t190107.size + 1 + t190108.size + 1 ≤ 9223372036854775807 then ((cal_pad.f kj7 (wrap64 (Int.tdiv (wrap64 (-a1)) 60)) 2).bind fun t190109 => (if t190104.size + 1 + t190106.size + 1 + t190107.size + 1 + t190108.size + 1 + t190109.size ≤ 9223372036854775807 then (if t190104.size + 1 + t190106.size + 1 + t190107.size + 1 + t190108.size + 1 + t190109.size + 1 ≤ 9223372036854775807 then ((cal_pad.f kj7 (Int.tmod (wrap64 (-a1)) 60) 2).bind fun t190110 => (if t190104.size + 1 + t190106.size + 1 + t190107.size + 1 + t190108.size + 1 + t190109.size + 1 + t190110.size ≤ 9223372036854775807 then (some ((((((((((t190104 ++ (⟨#[84]⟩ : ByteArray)) ++ t190106) ++ (⟨#[58]⟩ : ByteArray)) ++ t190107) ++ (⟨#[58]⟩ : ByteArray)) ++ t190108) ++ (⟨#[45]⟩ : ByteArray)) ++ t190109) ++ (⟨#[58]⟩ : ByteArray)) ++ t190110, 0)) else (none))) else (none)) else (none))) else (none)) else (if t190104.size + 1 + t190106.size + 1 + t190107.size + 1 + t190108.size + 1 ≤ 9223372036854775807 then ((cal_pad.f kj7 (wrap64 (Int.tdiv a1 60)) 2).bind fun t190111 => (if t190104.size + 1 + t190106.size + 1 + t190107.size + 1 + t190108.size + 1 + t190111.size ≤ 9223372036854775807 then (if t190104.size + 1 + t190106.size + 1 + t190107.size + 1 + t190108.size + 1 + t190111.size + 1 ≤ 9223372036854775807 then ((cal_pad.f kj7 (Int.tmod a1 60) 2).bind fun t190112 => (if t190104.size + 1 + t190106.size + 1 + t190107.size + 1 + t190108.size + 1 + t190111.size + 1 + t190112.size ≤ 9223372036854775807 then (some ((((((((((t190104 ++ (⟨#[84]⟩ : ByteArray)) ++ t190106) ++ (⟨#[58]⟩ : ByteArray)) ++ t190107) ++ (⟨#[58]⟩ : ByteArray)) ++ t190108) ++ (⟨#[43]⟩ : ByteArray)) ++ t190111) ++ (⟨#[58]⟩ : ByteArray)) ++ t190112, 0)) else (none))) else (none)) else (none))) else (none)))) else (none))) else (none)) else (none)) = some (r1, r2) := H
            try rw [Int.tmod_tmod_of_dvd _ (by decide)] at A170
            have A17 := Aside0.mk A170
            clear A170
            by_cases c18 : t190104.size + 1 + t190106.size + 1 + t190107.size ≤ 9223372036854775807
            ·rw [if_pos c18] at H
             have c18b0 := eq_true c18
             have c18b1 : decide (t190104.size + 1 + t190106.size + 1 + t190107.size ≤ 9223372036854775807) = true := decide_eq_true c18
             try have c18b2 : (9223372036854775807 < t190104.size + 1 + t190106.size + 1 + t190107.size) = False := eq_false (Nat.not_lt.2 c18)
             by_cases c19 : t190104.size + 1 + t190106.size + 1 + t190107.size + 1 ≤ 9223372036854775807
             ·rw [if_pos c19] at H
              have c19b0 := eq_true c19
              have c19b1 : decide (t190104.size + 1 + t190106.size + 1 + t190107.size + 1 ≤ 9223372036854775807) = true := decide_eq_true c19
              try have c19b2 : (9223372036854775807 < t190104.size + 1 + t190106.size + 1 + t190107.size + 1) = False := eq_false (Nat.not_lt.2 c19)
              replace H := Option.bind_eq_some_iff.mp H
              obtain ⟨t190108, A200, H⟩ := H
              replace H : (if t190104.size + 1 + t190106.size + 1 + t190107.size + 1 + t190108.size ≤ 9223372036854775807 then (if a1 = 0 then (if t190104.size + 1 + t190106.size + 1 + t190107.size + 1 + t190108.size + 1 ≤ 9223372036854775807 then (some (((((((t190104 ++ (⟨#[84]⟩ : ByteArray)) ++ t190106) ++ (⟨#[58]⟩ : ByteArray)) ++ t190107) ++ (⟨#[58]⟩ : ByteArray)) ++ t190108) ++ (⟨#[90]⟩ : ByteArray), 0)) else (none)) else (if a1 < 0 then (if t190104.size + 1 + t190106.size + 1 + t190107.size + 1 + t190108.size + 1 ≤ 9223372036854775807 then ((cal_pad.f kj7 (wrap64 (Int.tdiv (wrap64 (-a1)) 60)) 2).bind fun t190109 => (if t190104.size + 1 + t190106.size + 1 + t190107.size + 1 + t190108.size + 1 + t190109.size ≤ 9223372036854775807 then (if t190104.size + 1 + t190106.size + 1 + t190107.size + 1 + t190108.size + 1 + t190109.size + 1 ≤ 9223372036854775807 then ((cal_pad.f kj7 (Int.tmod (wrap64 (-a1)) 60) 2).bind fun t190110 => (if t190104.size + 1 + t190106.size + 1 + t190107.size + 1 + t190108.size + 1 + t190109.size + 1 + t190110.size ≤ 9223372036854775807 then (some ((((((((((t190104 ++ (⟨#[84]⟩ : ByteArray)) ++ t190106) ++ (⟨#[58]⟩ : ByteArray)) ++ t190107) ++ (⟨#[58]⟩ : ByteArray)) ++ t190108) ++ (⟨#[45]⟩ : ByteArray)) ++ t190109) ++ (⟨#[58]⟩ : ByteArray)) ++ t190110, 0)) else (none))) else (none)) else (none))) else (none)) else (if t190104.size + 1 + t190106.size + 1 + t190107.size + 1 + t190108.size + 1 ≤ 9223372036854775807 then ((cal_pad.f kj7 (wrap64 (Int.tdiv a1 60)) 2).bind fun t190111 => (if t190104.size + 1 + t190106.size + 1 + t190107.size + 1 + t190108.size + 1 + t190111.size ≤ 9223372036854775807 then (if t190104.size + 1 + t190106.size + 1 + t190107.size + 1 + t190108.size + 1 + t190111.size + 1 ≤ 9223372036854775807 then ((cal_pad.f kj7 (Int.tmod a1 60) 2).bind fun t190112 => (if t190104.size + 1 + t190106.size + 1 + t190107.size + 1 + t190108.size + 1 + t190111.size + 1 + t190112.size ≤ 9223372036854775807 then (some ((((((((((t190104 ++ (⟨#[84]⟩ : ByteArray)) ++ t190106) ++ (⟨#[58]⟩ : ByteArray)) ++ t190107) ++ (⟨#[58]⟩ : ByteArray)) ++ t190108) ++ (⟨#[43]⟩ : ByteArray)) ++ t190111) ++ (⟨#[58]⟩ : ByteArray)) ++ t190112, 0)) else (none))) else (none)) else (none))) else (none)))) else (none)) = some (r1, r2) := H
              try rw [Int.tmod_tmod_of_dvd _ (by decide)] at A200
              have A20 := Aside0.mk A200
              clear A200
              by_cases c21 : t190104.size + 1 + t190106.size + 1 + t190107.size + 1 + t190108.size ≤ 9223372036854775807
              ·rw [if_pos c21] at H
               have c21b0 := eq_true c21
               have c21b1 : decide (t190104.size + 1 + t190106.size + 1 + t190107.size + 1 + t190108.size ≤ 9223372036854775807) = true := decide_eq_true c21
               try have c21b2 : (9223372036854775807 < t190104.size + 1 + t190106.size + 1 + t190107.size + 1 + t190108.size) = False := eq_false (Nat.not_lt.2 c21)
               by_cases c22 : a1 = 0
               ·rw [if_pos c22] at H
                have c22b0 : (a1 == 0) = true := beq_iff_eq.mpr c22
                have c22b1 : (a1 != 0) = false := bne_eq_false_iff_eq.mpr c22
                clear c22
                by_cases c23 : t190104.size + 1 + t190106.size + 1 + t190107.size + 1 + t190108.size + 1 ≤ 9223372036854775807
                ·rw [if_pos c23] at H
                 have c23b0 := eq_true c23
                 have c23b1 : decide (t190104.size + 1 + t190106.size + 1 + t190107.size + 1 + t190108.size + 1 ≤ 9223372036854775807) = true := decide_eq_true c23
                 try have c23b2 : (9223372036854775807 < t190104.size + 1 + t190106.size + 1 + t190107.size + 1 + t190108.size + 1) = False := eq_false (Nat.not_lt.2 c23)
                 simp only [Option.some.injEq, Prod.mk.injEq] at H
                 obtain ⟨rfl, rfl⟩ := H
                 go_wp2_with (first | ((with_reducible refine gate_callee (f := 35) rfl ?_); refine goesL_ (some 37) rfl rfl Tryd.func35 (by kernel_rfl) rfl #[.int .i64 (wrap64 (Int.tdiv (wrap64 (a0 + (wrap64 (60 * a1)))) 86400))] rfl (by (try simp only [List.map_toArray, List.map_cons, List.map_nil]); first | done | rfl | (simp only [List.length_drop, List.length_take]; rfl)) ?_; (with_reducible refine (cal_date.calls kj7 (wrap64 (Int.tdiv (wrap64 (a0 + (wrap64 (60 * a1)))) 86400)) t190101 t190102 t190103 _ ?side1 A11.out).mono ?_); (case side1 => refine GlobOk.below HG.out ?_; repeat (first | (with_reducible first | exact HB.out | apply below_alloc | apply pw_below_drewN | apply below_drew1) | exact HB.out)); rintro e w24 ⟨rfl, hb⟩; refine ⟨_, rfl, ?_⟩; have n0_ := Aside0.mk (below_step (by repeat (first | (with_reducible first | exact HB.out | apply below_alloc | apply pw_below_drewN | apply below_drew1) | exact HB.out)) hb); clear HB; have HB := n0_; clear n0_; (try clear hb); (try clear hb2); (try clear hk); (try clear hi)) | ((with_reducible refine gate_callee (f := 37) rfl ?_); refine goesL_ (some 38) rfl rfl Tryd.func37 (by kernel_rfl) rfl #[.agg #[.int .i64 t190101, .int .i64 t190102, .int .i64 t190103], .int .i64 0] rfl (by (try simp only [List.map_toArray, List.map_cons, List.map_nil]); first | done | rfl | (simp only [List.length_drop, List.length_take]; rfl)) ?_; (with_reducible refine (cal_PrintDate.calls kj7 t190101 t190102 t190103 0 t190104 t190105 _ ?side1 A12.out).mono ?_); (case side1 => refine GlobOk.below HG.out ?_; repeat (first | (with_reducible first | exact HB.out | apply below_alloc | apply pw_below_drewN | apply below_drew1) | exact HB.out)); rintro e w25 ⟨rfl, hb⟩; refine ⟨_, rfl, ?_⟩; have n0_ := Aside0.mk (below_step (by repeat (first | (with_reducible first | exact HB.out | apply below_alloc | apply pw_below_drewN | apply below_drew1) | exact HB.out)) hb); clear HB; have HB := n0_; clear n0_; (try clear hb); (try clear hb2); (try clear hk); (try clear hi)) | ((with_reducible refine gate_callee (f := 38) rfl ?_); refine goesL_ (some 47) rfl rfl Tryd.func38 (by kernel_rfl) rfl #[.int .i64 (wrap64 (Int.tdiv (Int.tmod (wrap64 (a0 + (wrap64 (60 * a1)))) 86400) 3600)), .int .i64 2] rfl (by (try simp only [List.map_toArray, List.map_cons, List.map_nil]); first | done | rfl | (simp only [List.length_drop, List.length_take]; rfl)) ?_; (with_reducible refine (cal_pad.calls kj7 (wrap64 (Int.tdiv (Int.tmod (wrap64 (a0 + (wrap64 (60 * a1)))) 86400) 3600)) 2 t190106 _ A14.out).mono ?_); rintro e w26 ⟨rfl, hb⟩; refine ⟨_, rfl, ?_⟩; have n0_ := Aside0.mk (below_step (by repeat (first | (with_reducible first | exact HB.out | apply below_alloc | apply pw_below_drewN | apply below_drew1) | exact HB.out)) hb); clear HB; have HB := n0_; clear n0_; (try clear hb); (try clear hb2); (try clear hk); (try clear hi)) | ((with_reducible refine gate_callee (f := 38) rfl ?_); refine goesL_ (some 53) rfl rfl Tryd.func38 (by kernel_rfl) rfl #[.int .i64 (Int.tmod (wrap64 (Int.tdiv (Int.tmod (wrap64 (a0 + (wrap64 (60 * a1)))) 86400) 60)) 60), .int .i64 2] rfl (by (try simp only [List.map_toArray, List.map_cons, List.map_nil]); first | done | rfl | (simp only [List.length_drop, List.length_take]; rfl)) ?_; (with_reducible refine (cal_pad.calls kj7 (Int.tmod (wrap64 (Int.tdiv (Int.tmod (wrap64 (a0 + (wrap64 (60 * a1)))) 86400) 60)) 60) 2 t190107 _ A17.out).mono ?_); rintro e w27 ⟨rfl, hb⟩; refine ⟨_, rfl, ?_⟩; have n0_ := Aside0.mk (below_step (by repeat (first | (with_reducible first | exact HB.out | apply below_alloc | apply pw_below_drewN | apply below_drew1) | exact HB.out)) hb); clear HB; have HB := n0_; clear n0_; (try clear hb); (try clear hb2); (try clear hk); (try clear hi)) | ((with_reducible refine gate_callee (f := 38) rfl ?_); refine goesL_ (some 58) rfl rfl Tryd.func38 (by kernel_rfl) rfl #[.int .i64 (Int.tmod (wrap64 (a0 + (wrap64 (60 * a1)))) 60), .int .i64 2] rfl (by (try simp only [List.map_toArray, List.map_cons, List.map_nil]); first | done | rfl | (simp only [List.length_drop, List.length_take]; rfl)) ?_; (with_reducible refine (cal_pad.calls kj7 (Int.tmod (wrap64 (a0 + (wrap64 (60 * a1)))) 60) 2 t190108 _ A20.out).mono ?_); rintro e w28 ⟨rfl, hb⟩; refine ⟨_, rfl, ?_⟩; have n0_ := Aside0.mk (below_step (by repeat (first | (with_reducible first | exact HB.out | apply below_alloc | apply pw_below_drewN | apply below_drew1) | exact HB.out)) hb); clear HB; have HB := n0_; clear n0_; (try clear hb); (try clear hb2); (try clear hk); (try clear hi)))
                 go_ret2
                 exact ⟨by first | rfl | (simp [errW_none, errW_some] <;> rfl) | (simp [*, errW_none, errW_some] <;> rfl), by repeat (first | (with_reducible first | exact HB.out | apply below_alloc | apply pw_below_drewN | apply below_drew1) | exact HB.out)⟩
                ·rw [if_neg c23] at H
                 exact absurd H (by simp)
               ·rw [if_neg c22] at H
                have c22b0 : (a1 == 0) = false := beq_eq_false_iff_ne.mpr c22
                have c22b1 : (a1 != 0) = true := bne_iff_ne.mpr c22
                by_cases c29 : a1 < 0
                ·rw [if_pos c29] at H
                 have c29b0 : decide (a1 < 0) = true := decide_eq_true c29
                 clear c29
                 by_cases c30 : t190104.size + 1 + t190106.size + 1 + t190107.size + 1 + t190108.size + 1 ≤ 9223372036854775807
                 ·rw [if_pos c30] at H
                  have c30b0 := eq_true c30
                  have c30b1 : decide (t190104.size + 1 + t190106.size + 1 + t190107.size + 1 + t190108.size + 1 ≤ 9223372036854775807) = true := decide_eq_true c30
                  try have c30b2 : (9223372036854775807 < t190104.size + 1 + t190106.size + 1 + t190107.size + 1 + t190108.size + 1) = False := eq_false (Nat.not_lt.2 c30)
                  replace H := Option.bind_eq_some_iff.mp H
                  obtain ⟨t190109, A310, H⟩ := H
                  replace H : (if t190104.size + 1 + t190106.size + 1 + t190107.size + 1 + t190108.size + 1 + t190109.size ≤ 9223372036854775807 then (if t190104.size + 1 + t190106.size + 1 + t190107.size + 1 + t190108.size + 1 + t190109.size + 1 ≤ 9223372036854775807 then ((cal_pad.f kj7 (Int.tmod (wrap64 (-a1)) 60) 2).bind fun t190110 => (if t190104.size + 1 + t190106.size + 1 + t190107.size + 1 + t190108.size + 1 + t190109.size + 1 + t190110.size ≤ 9223372036854775807 then (some ((((((((((t190104 ++ (⟨#[84]⟩ : ByteArray)) ++ t190106) ++ (⟨#[58]⟩ : ByteArray)) ++ t190107) ++ (⟨#[58]⟩ : ByteArray)) ++ t190108) ++ (⟨#[45]⟩ : ByteArray)) ++ t190109) ++ (⟨#[58]⟩ : ByteArray)) ++ t190110, 0)) else (none))) else (none)) else (none)) = some (r1, r2) := H
                  try rw [Int.tmod_tmod_of_dvd _ (by decide)] at A310
                  have A31 := Aside0.mk A310
                  clear A310
                  by_cases c32 : t190104.size + 1 + t190106.size + 1 + t190107.size + 1 + t190108.size + 1 + t190109.size ≤ 9223372036854775807
                  ·rw [if_pos c32] at H
                   have c32b0 := eq_true c32
                   have c32b1 : decide (t190104.size + 1 + t190106.size + 1 + t190107.size + 1 + t190108.size + 1 + t190109.size ≤ 9223372036854775807) = true := decide_eq_true c32
                   try have c32b2 : (9223372036854775807 < t190104.size + 1 + t190106.size + 1 + t190107.size + 1 + t190108.size + 1 + t190109.size) = False := eq_false (Nat.not_lt.2 c32)
                   by_cases c33 : t190104.size + 1 + t190106.size + 1 + t190107.size + 1 + t190108.size + 1 + t190109.size + 1 ≤ 9223372036854775807
                   ·rw [if_pos c33] at H
                    have c33b0 := eq_true c33
                    have c33b1 : decide (t190104.size + 1 + t190106.size + 1 + t190107.size + 1 + t190108.size + 1 + t190109.size + 1 ≤ 9223372036854775807) = true := decide_eq_true c33
                    try have c33b2 : (9223372036854775807 < t190104.size + 1 + t190106.size + 1 + t190107.size + 1 + t190108.size + 1 + t190109.size + 1) = False := eq_false (Nat.not_lt.2 c33)
                    replace H := Option.bind_eq_some_iff.mp H
                    obtain ⟨t190110, A340, H⟩ := H
                    replace H : (if t190104.size + 1 + t190106.size + 1 + t190107.size + 1 + t190108.size + 1 + t190109.size + 1 + t190110.size ≤ 9223372036854775807 then (some ((((((((((t190104 ++ (⟨#[84]⟩ : ByteArray)) ++ t190106) ++ (⟨#[58]⟩ : ByteArray)) ++ t190107) ++ (⟨#[58]⟩ : ByteArray)) ++ t190108) ++ (⟨#[45]⟩ : ByteArray)) ++ t190109) ++ (⟨#[58]⟩ : ByteArray)) ++ t190110, 0)) else (none)) = some (r1, r2) := H
                    try rw [Int.tmod_tmod_of_dvd _ (by decide)] at A340
                    have A34 := Aside0.mk A340
                    clear A340
                    by_cases c35 : t190104.size + 1 + t190106.size + 1 + t190107.size + 1 + t190108.size + 1 + t190109.size + 1 + t190110.size ≤ 9223372036854775807
                    ·rw [if_pos c35] at H
                     have c35b0 := eq_true c35
                     have c35b1 : decide (t190104.size + 1 + t190106.size + 1 + t190107.size + 1 + t190108.size + 1 + t190109.size + 1 + t190110.size ≤ 9223372036854775807) = true := decide_eq_true c35
                     try have c35b2 : (9223372036854775807 < t190104.size + 1 + t190106.size + 1 + t190107.size + 1 + t190108.size + 1 + t190109.size + 1 + t190110.size) = False := eq_false (Nat.not_lt.2 c35)
                     simp only [Option.some.injEq, Prod.mk.injEq] at H
                     obtain ⟨rfl, rfl⟩ := H
                     go_wp2_with (first | ((with_reducible refine gate_callee (f := 35) rfl ?_); refine goesL_ (some 37) rfl rfl Tryd.func35 (by kernel_rfl) rfl #[.int .i64 (wrap64 (Int.tdiv (wrap64 (a0 + (wrap64 (60 * a1)))) 86400))] rfl (by (try simp only [List.map_toArray, List.map_cons, List.map_nil]); first | done | rfl | (simp only [List.length_drop, List.length_take]; rfl)) ?_; (with_reducible refine (cal_date.calls kj7 (wrap64 (Int.tdiv (wrap64 (a0 + (wrap64 (60 * a1)))) 86400)) t190101 t190102 t190103 _ ?side1 A11.out).mono ?_); (case side1 => refine GlobOk.below HG.out ?_; repeat (first | (with_reducible first | exact HB.out | apply below_alloc | apply pw_below_drewN | apply below_drew1) | exact HB.out)); rintro e w36 ⟨rfl, hb⟩; refine ⟨_, rfl, ?_⟩; have n0_ := Aside0.mk (below_step (by repeat (first | (with_reducible first | exact HB.out | apply below_alloc | apply pw_below_drewN | apply below_drew1) | exact HB.out)) hb); clear HB; have HB := n0_; clear n0_; (try clear hb); (try clear hb2); (try clear hk); (try clear hi)) | ((with_reducible refine gate_callee (f := 37) rfl ?_); refine goesL_ (some 38) rfl rfl Tryd.func37 (by kernel_rfl) rfl #[.agg #[.int .i64 t190101, .int .i64 t190102, .int .i64 t190103], .int .i64 0] rfl (by (try simp only [List.map_toArray, List.map_cons, List.map_nil]); first | done | rfl | (simp only [List.length_drop, List.length_take]; rfl)) ?_; (with_reducible refine (cal_PrintDate.calls kj7 t190101 t190102 t190103 0 t190104 t190105 _ ?side1 A12.out).mono ?_); (case side1 => refine GlobOk.below HG.out ?_; repeat (first | (with_reducible first | exact HB.out | apply below_alloc | apply pw_below_drewN | apply below_drew1) | exact HB.out)); rintro e w37 ⟨rfl, hb⟩; refine ⟨_, rfl, ?_⟩; have n0_ := Aside0.mk (below_step (by repeat (first | (with_reducible first | exact HB.out | apply below_alloc | apply pw_below_drewN | apply below_drew1) | exact HB.out)) hb); clear HB; have HB := n0_; clear n0_; (try clear hb); (try clear hb2); (try clear hk); (try clear hi)) | ((with_reducible refine gate_callee (f := 38) rfl ?_); refine goesL_ (some 47) rfl rfl Tryd.func38 (by kernel_rfl) rfl #[.int .i64 (wrap64 (Int.tdiv (Int.tmod (wrap64 (a0 + (wrap64 (60 * a1)))) 86400) 3600)), .int .i64 2] rfl (by (try simp only [List.map_toArray, List.map_cons, List.map_nil]); first | done | rfl | (simp only [List.length_drop, List.length_take]; rfl)) ?_; (with_reducible refine (cal_pad.calls kj7 (wrap64 (Int.tdiv (Int.tmod (wrap64 (a0 + (wrap64 (60 * a1)))) 86400) 3600)) 2 t190106 _ A14.out).mono ?_); rintro e w38 ⟨rfl, hb⟩; refine ⟨_, rfl, ?_⟩; have n0_ := Aside0.mk (below_step (by repeat (first | (with_reducible first | exact HB.out | apply below_alloc | apply pw_below_drewN | apply below_drew1) | exact HB.out)) hb); clear HB; have HB := n0_; clear n0_; (try clear hb); (try clear hb2); (try clear hk); (try clear hi)) | ((with_reducible refine gate_callee (f := 38) rfl ?_); refine goesL_ (some 53) rfl rfl Tryd.func38 (by kernel_rfl) rfl #[.int .i64 (Int.tmod (wrap64 (Int.tdiv (Int.tmod (wrap64 (a0 + (wrap64 (60 * a1)))) 86400) 60)) 60), .int .i64 2] rfl (by (try simp only [List.map_toArray, List.map_cons, List.map_nil]); first | done | rfl | (simp only [List.length_drop, List.length_take]; rfl)) ?_; (with_reducible refine (cal_pad.calls kj7 (Int.tmod (wrap64 (Int.tdiv (Int.tmod (wrap64 (a0 + (wrap64 (60 * a1)))) 86400) 60)) 60) 2 t190107 _ A17.out).mono ?_); rintro e w39 ⟨rfl, hb⟩; refine ⟨_, rfl, ?_⟩; have n0_ := Aside0.mk (below_step (by repeat (first | (with_reducible first | exact HB.out | apply below_alloc | apply pw_below_drewN | apply below_drew1) | exact HB.out)) hb); clear HB; have HB := n0_; clear n0_; (try clear hb); (try clear hb2); (try clear hk); (try clear hi)) | ((with_reducible refine gate_callee (f := 38) rfl ?_); refine goesL_ (some 58) rfl rfl Tryd.func38 (by kernel_rfl) rfl #[.int .i64 (Int.tmod (wrap64 (a0 + (wrap64 (60 * a1)))) 60), .int .i64 2] rfl (by (try simp only [List.map_toArray, List.map_cons, List.map_nil]); first | done | rfl | (simp only [List.length_drop, List.length_take]; rfl)) ?_; (with_reducible refine (cal_pad.calls kj7 (Int.tmod (wrap64 (a0 + (wrap64 (60 * a1)))) 60) 2 t190108 _ A20.out).mono ?_); rintro e w40 ⟨rfl, hb⟩; refine ⟨_, rfl, ?_⟩; have n0_ := Aside0.mk (below_step (by repeat (first | (with_reducible first | exact HB.out | apply below_alloc | apply pw_below_drewN | apply below_drew1) | exact HB.out)) hb); clear HB; have HB := n0_; clear n0_; (try clear hb); (try clear hb2); (try clear hk); (try clear hi)) | ((with_reducible refine gate_callee (f := 38) rfl ?_); refine goesL_ (some 73) rfl rfl Tryd.func38 (by kernel_rfl) rfl #[.int .i64 (wrap64 (Int.tdiv (wrap64 (-a1)) 60)), .int .i64 2] rfl (by (try simp only [List.map_toArray, List.map_cons, List.map_nil]); first | done | rfl | (simp only [List.length_drop, List.length_take]; rfl)) ?_; (with_reducible refine (cal_pad.calls kj7 (wrap64 (Int.tdiv (wrap64 (-a1)) 60)) 2 t190109 _ A31.out).mono ?_); rintro e w41 ⟨rfl, hb⟩; refine ⟨_, rfl, ?_⟩; have n0_ := Aside0.mk (below_step (by repeat (first | (with_reducible first | exact HB.out | apply below_alloc | apply pw_below_drewN | apply below_drew1) | exact HB.out)) hb); clear HB; have HB := n0_; clear n0_; (try clear hb); (try clear hb2); (try clear hk); (try clear hi)) | ((with_reducible refine gate_callee (f := 38) rfl ?_); refine goesL_ (some 79) rfl rfl Tryd.func38 (by kernel_rfl) rfl #[.int .i64 (Int.tmod (wrap64 (-a1)) 60), .int .i64 2] rfl (by (try simp only [List.map_toArray, List.map_cons, List.map_nil]); first | done | rfl | (simp only [List.length_drop, List.length_take]; rfl)) ?_; (with_reducible refine (cal_pad.calls kj7 (Int.tmod (wrap64 (-a1)) 60) 2 t190110 _ A34.out).mono ?_); rintro e w42 ⟨rfl, hb⟩; refine ⟨_, rfl, ?_⟩; have n0_ := Aside0.mk (below_step (by repeat (first | (with_reducible first | exact HB.out | apply below_alloc | apply pw_below_drewN | apply below_drew1) | exact HB.out)) hb); clear HB; have HB := n0_; clear n0_; (try clear hb); (try clear hb2); (try clear hk); (try clear hi)))
                     go_ret2
                     exact ⟨by first | rfl | (simp [errW_none, errW_some] <;> rfl) | (simp [*, errW_none, errW_some] <;> rfl), by repeat (first | (with_reducible first | exact HB.out | apply below_alloc | apply pw_below_drewN | apply below_drew1) | exact HB.out)⟩
                    ·rw [if_neg c35] at H
                     exact absurd H (by simp)
                   ·rw [if_neg c33] at H
                    exact absurd H (by simp)
                  ·rw [if_neg c32] at H
                   exact absurd H (by simp)
                 ·rw [if_neg c30] at H
                  exact absurd H (by simp)
                ·rw [if_neg c29] at H
                 have c29b0 : decide (a1 < 0) = false := decide_eq_false c29
                 clear c29
                 by_cases c43 : t190104.size + 1 + t190106.size + 1 + t190107.size + 1 + t190108.size + 1 ≤ 9223372036854775807
                 ·rw [if_pos c43] at H
                  have c43b0 := eq_true c43
                  have c43b1 : decide (t190104.size + 1 + t190106.size + 1 + t190107.size + 1 + t190108.size + 1 ≤ 9223372036854775807) = true := decide_eq_true c43
                  try have c43b2 : (9223372036854775807 < t190104.size + 1 + t190106.size + 1 + t190107.size + 1 + t190108.size + 1) = False := eq_false (Nat.not_lt.2 c43)
                  replace H := Option.bind_eq_some_iff.mp H
                  obtain ⟨t190111, A440, H⟩ := H
                  replace H : (if t190104.size + 1 + t190106.size + 1 + t190107.size + 1 + t190108.size + 1 + t190111.size ≤ 9223372036854775807 then (if t190104.size + 1 + t190106.size + 1 + t190107.size + 1 + t190108.size + 1 + t190111.size + 1 ≤ 9223372036854775807 then ((cal_pad.f kj7 (Int.tmod a1 60) 2).bind fun t190112 => (if t190104.size + 1 + t190106.size + 1 + t190107.size + 1 + t190108.size + 1 + t190111.size + 1 + t190112.size ≤ 9223372036854775807 then (some ((((((((((t190104 ++ (⟨#[84]⟩ : ByteArray)) ++ t190106) ++ (⟨#[58]⟩ : ByteArray)) ++ t190107) ++ (⟨#[58]⟩ : ByteArray)) ++ t190108) ++ (⟨#[43]⟩ : ByteArray)) ++ t190111) ++ (⟨#[58]⟩ : ByteArray)) ++ t190112, 0)) else (none))) else (none)) else (none)) = some (r1, r2) := H
                  try rw [Int.tmod_tmod_of_dvd _ (by decide)] at A440
                  have A44 := Aside0.mk A440
                  clear A440
                  by_cases c45 : t190104.size + 1 + t190106.size + 1 + t190107.size + 1 + t190108.size + 1 + t190111.size ≤ 9223372036854775807
                  ·rw [if_pos c45] at H
                   have c45b0 := eq_true c45
                   have c45b1 : decide (t190104.size + 1 + t190106.size + 1 + t190107.size + 1 + t190108.size + 1 + t190111.size ≤ 9223372036854775807) = true := decide_eq_true c45
                   try have c45b2 : (9223372036854775807 < t190104.size + 1 + t190106.size + 1 + t190107.size + 1 + t190108.size + 1 + t190111.size) = False := eq_false (Nat.not_lt.2 c45)
                   by_cases c46 : t190104.size + 1 + t190106.size + 1 + t190107.size + 1 + t190108.size + 1 + t190111.size + 1 ≤ 9223372036854775807
                   ·rw [if_pos c46] at H
                    have c46b0 := eq_true c46
                    have c46b1 : decide (t190104.size + 1 + t190106.size + 1 + t190107.size + 1 + t190108.size + 1 + t190111.size + 1 ≤ 9223372036854775807) = true := decide_eq_true c46
                    try have c46b2 : (9223372036854775807 < t190104.size + 1 + t190106.size + 1 + t190107.size + 1 + t190108.size + 1 + t190111.size + 1) = False := eq_false (Nat.not_lt.2 c46)
                    replace H := Option.bind_eq_some_iff.mp H
                    obtain ⟨t190112, A470, H⟩ := H
                    replace H : (if t190104.size + 1 + t190106.size + 1 + t190107.size + 1 + t190108.size + 1 + t190111.size + 1 + t190112.size ≤ 9223372036854775807 then (some ((((((((((t190104 ++ (⟨#[84]⟩ : ByteArray)) ++ t190106) ++ (⟨#[58]⟩ : ByteArray)) ++ t190107) ++ (⟨#[58]⟩ : ByteArray)) ++ t190108) ++ (⟨#[43]⟩ : ByteArray)) ++ t190111) ++ (⟨#[58]⟩ : ByteArray)) ++ t190112, 0)) else (none)) = some (r1, r2) := H
                    try rw [Int.tmod_tmod_of_dvd _ (by decide)] at A470
                    have A47 := Aside0.mk A470
                    clear A470
                    by_cases c48 : t190104.size + 1 + t190106.size + 1 + t190107.size + 1 + t190108.size + 1 + t190111.size + 1 + t190112.size ≤ 9223372036854775807
                    ·rw [if_pos c48] at H
                     have c48b0 := eq_true c48
                     have c48b1 : decide (t190104.size + 1 + t190106.size + 1 + t190107.size + 1 + t190108.size + 1 + t190111.size + 1 + t190112.size ≤ 9223372036854775807) = true := decide_eq_true c48
                     try have c48b2 : (9223372036854775807 < t190104.size + 1 + t190106.size + 1 + t190107.size + 1 + t190108.size + 1 + t190111.size + 1 + t190112.size) = False := eq_false (Nat.not_lt.2 c48)
                     simp only [Option.some.injEq, Prod.mk.injEq] at H
                     obtain ⟨rfl, rfl⟩ := H
                     go_wp2_with (first | ((with_reducible refine gate_callee (f := 35) rfl ?_); refine goesL_ (some 37) rfl rfl Tryd.func35 (by kernel_rfl) rfl #[.int .i64 (wrap64 (Int.tdiv (wrap64 (a0 + (wrap64 (60 * a1)))) 86400))] rfl (by (try simp only [List.map_toArray, List.map_cons, List.map_nil]); first | done | rfl | (simp only [List.length_drop, List.length_take]; rfl)) ?_; (with_reducible refine (cal_date.calls kj7 (wrap64 (Int.tdiv (wrap64 (a0 + (wrap64 (60 * a1)))) 86400)) t190101 t190102 t190103 _ ?side1 A11.out).mono ?_); (case side1 => refine GlobOk.below HG.out ?_; repeat (first | (with_reducible first | exact HB.out | apply below_alloc | apply pw_below_drewN | apply below_drew1) | exact HB.out)); rintro e w49 ⟨rfl, hb⟩; refine ⟨_, rfl, ?_⟩; have n0_ := Aside0.mk (below_step (by repeat (first | (with_reducible first | exact HB.out | apply below_alloc | apply pw_below_drewN | apply below_drew1) | exact HB.out)) hb); clear HB; have HB := n0_; clear n0_; (try clear hb); (try clear hb2); (try clear hk); (try clear hi)) | ((with_reducible refine gate_callee (f := 37) rfl ?_); refine goesL_ (some 38) rfl rfl Tryd.func37 (by kernel_rfl) rfl #[.agg #[.int .i64 t190101, .int .i64 t190102, .int .i64 t190103], .int .i64 0] rfl (by (try simp only [List.map_toArray, List.map_cons, List.map_nil]); first | done | rfl | (simp only [List.length_drop, List.length_take]; rfl)) ?_; (with_reducible refine (cal_PrintDate.calls kj7 t190101 t190102 t190103 0 t190104 t190105 _ ?side1 A12.out).mono ?_); (case side1 => refine GlobOk.below HG.out ?_; repeat (first | (with_reducible first | exact HB.out | apply below_alloc | apply pw_below_drewN | apply below_drew1) | exact HB.out)); rintro e w50 ⟨rfl, hb⟩; refine ⟨_, rfl, ?_⟩; have n0_ := Aside0.mk (below_step (by repeat (first | (with_reducible first | exact HB.out | apply below_alloc | apply pw_below_drewN | apply below_drew1) | exact HB.out)) hb); clear HB; have HB := n0_; clear n0_; (try clear hb); (try clear hb2); (try clear hk); (try clear hi)) | ((with_reducible refine gate_callee (f := 38) rfl ?_); refine goesL_ (some 47) rfl rfl Tryd.func38 (by kernel_rfl) rfl #[.int .i64 (wrap64 (Int.tdiv (Int.tmod (wrap64 (a0 + (wrap64 (60 * a1)))) 86400) 3600)), .int .i64 2] rfl (by (try simp only [List.map_toArray, List.map_cons, List.map_nil]); first | done | rfl | (simp only [List.length_drop, List.length_take]; rfl)) ?_; (with_reducible refine (cal_pad.calls kj7 (wrap64 (Int.tdiv (Int.tmod (wrap64 (a0 + (wrap64 (60 * a1)))) 86400) 3600)) 2 t190106 _ A14.out).mono ?_); rintro e w51 ⟨rfl, hb⟩; refine ⟨_, rfl, ?_⟩; have n0_ := Aside0.mk (below_step (by repeat (first | (with_reducible first | exact HB.out | apply below_alloc | apply pw_below_drewN | apply below_drew1) | exact HB.out)) hb); clear HB; have HB := n0_; clear n0_; (try clear hb); (try clear hb2); (try clear hk); (try clear hi)) | ((with_reducible refine gate_callee (f := 38) rfl ?_); refine goesL_ (some 53) rfl rfl Tryd.func38 (by kernel_rfl) rfl #[.int .i64 (Int.tmod (wrap64 (Int.tdiv (Int.tmod (wrap64 (a0 + (wrap64 (60 * a1)))) 86400) 60)) 60), .int .i64 2] rfl (by (try simp only [List.map_toArray, List.map_cons, List.map_nil]); first | done | rfl | (simp only [List.length_drop, List.length_take]; rfl)) ?_; (with_reducible refine (cal_pad.calls kj7 (Int.tmod (wrap64 (Int.tdiv (Int.tmod (wrap64 (a0 + (wrap64 (60 * a1)))) 86400) 60)) 60) 2 t190107 _ A17.out).mono ?_); rintro e w52 ⟨rfl, hb⟩; refine ⟨_, rfl, ?_⟩; have n0_ := Aside0.mk (below_step (by repeat (first | (with_reducible first | exact HB.out | apply below_alloc | apply pw_below_drewN | apply below_drew1) | exact HB.out)) hb); clear HB; have HB := n0_; clear n0_; (try clear hb); (try clear hb2); (try clear hk); (try clear hi)) | ((with_reducible refine gate_callee (f := 38) rfl ?_); refine goesL_ (some 58) rfl rfl Tryd.func38 (by kernel_rfl) rfl #[.int .i64 (Int.tmod (wrap64 (a0 + (wrap64 (60 * a1)))) 60), .int .i64 2] rfl (by (try simp only [List.map_toArray, List.map_cons, List.map_nil]); first | done | rfl | (simp only [List.length_drop, List.length_take]; rfl)) ?_; (with_reducible refine (cal_pad.calls kj7 (Int.tmod (wrap64 (a0 + (wrap64 (60 * a1)))) 60) 2 t190108 _ A20.out).mono ?_); rintro e w53 ⟨rfl, hb⟩; refine ⟨_, rfl, ?_⟩; have n0_ := Aside0.mk (below_step (by repeat (first | (with_reducible first | exact HB.out | apply below_alloc | apply pw_below_drewN | apply below_drew1) | exact HB.out)) hb); clear HB; have HB := n0_; clear n0_; (try clear hb); (try clear hb2); (try clear hk); (try clear hi)) | ((with_reducible refine gate_callee (f := 38) rfl ?_); refine goesL_ (some 85) rfl rfl Tryd.func38 (by kernel_rfl) rfl #[.int .i64 (wrap64 (Int.tdiv a1 60)), .int .i64 2] rfl (by (try simp only [List.map_toArray, List.map_cons, List.map_nil]); first | done | rfl | (simp only [List.length_drop, List.length_take]; rfl)) ?_; (with_reducible refine (cal_pad.calls kj7 (wrap64 (Int.tdiv a1 60)) 2 t190111 _ A44.out).mono ?_); rintro e w54 ⟨rfl, hb⟩; refine ⟨_, rfl, ?_⟩; have n0_ := Aside0.mk (below_step (by repeat (first | (with_reducible first | exact HB.out | apply below_alloc | apply pw_below_drewN | apply below_drew1) | exact HB.out)) hb); clear HB; have HB := n0_; clear n0_; (try clear hb); (try clear hb2); (try clear hk); (try clear hi)) | ((with_reducible refine gate_callee (f := 38) rfl ?_); refine goesL_ (some 90) rfl rfl Tryd.func38 (by kernel_rfl) rfl #[.int .i64 (Int.tmod a1 60), .int .i64 2] rfl (by (try simp only [List.map_toArray, List.map_cons, List.map_nil]); first | done | rfl | (simp only [List.length_drop, List.length_take]; rfl)) ?_; (with_reducible refine (cal_pad.calls kj7 (Int.tmod a1 60) 2 t190112 _ A47.out).mono ?_); rintro e w55 ⟨rfl, hb⟩; refine ⟨_, rfl, ?_⟩; have n0_ := Aside0.mk (below_step (by repeat (first | (with_reducible first | exact HB.out | apply below_alloc | apply pw_below_drewN | apply below_drew1) | exact HB.out)) hb); clear HB; have HB := n0_; clear n0_; (try clear hb); (try clear hb2); (try clear hk); (try clear hi)))
                     go_ret2
                     exact ⟨by first | rfl | (simp [errW_none, errW_some] <;> rfl) | (simp [*, errW_none, errW_some] <;> rfl), by repeat (first | (with_reducible first | exact HB.out | apply below_alloc | apply pw_below_drewN | apply below_drew1) | exact HB.out)⟩
                    ·rw [if_neg c48] at H
                     exact absurd H (by simp)
                   ·rw [if_neg c46] at H
                    exact absurd H (by simp)
                  ·rw [if_neg c45] at H
                   exact absurd H (by simp)
                 ·rw [if_neg c43] at H
                  exact absurd H (by simp)
              ·rw [if_neg c21] at H
               exact absurd H (by simp)
             ·rw [if_neg c19] at H
              exact absurd H (by simp)
            ·rw [if_neg c18] at H
             exact absurd H (by simp)
           ·rw [if_neg c16] at H
            exact absurd H (by simp)
          ·rw [if_neg c15] at H
           exact absurd H (by simp)
         ·rw [if_neg c13] at H
          exact absurd H (by simp)

end Go.Proofs.YtiklakkkgmilnaaDoor.GC
