/- The two functions of package cal that read the table of the days ahead of each month: what each answers, proved by walking its text, wherever the table's variable holds what its declaration says. -/
import Derived.Test.YtjifinacnofmiaaDoorProg
import Derived.Test.YtjifinacnofmiaaDoorCalM
import Derived.WalkKit
import Derived.WalkSpells
import Derived.WalkSmall
import Derived.Deep.QuietTactic
import Derived.BigQuiet
import Derived.Lib.LaidTab
import Derived.Lib.Hide
import Derived.Test.YtjifinacnofmiaaDoorVWords
namespace Go.Proofs.YtjifinacnofmiaaDoor.Ext
open Go.RowKit Go.Proofs.YtjifinacnofmiaaDoorW.PrintWords Go.Proofs.YtjifinacnofmiaaDoor.PCal

def aheadTab : List Int := [0, 0, 31, 59, 90, 120, 151, 181, 212, 243, 273, 304, 334, 365]
theorem gAhead : Tryd.prog.globalNamed "larder/cal.ahead" = some 1 := by kernel_rfl
/-- the table's variable holds what its declaration says; its block lies below the heap's end -/
structure GlobOk (w : World) : Prop where
  tab : Lib.TabIs Tryd.prog w "larder/cal.ahead" .i64 aheadTab
  lt : 1 < w.heap.size
theorem GlobOk.below {w w' : World} (h : GlobOk w) (hb : Below w.heap.size w w') : GlobOk w' :=
  ⟨var?_below hb gAhead h.lt h.tab, Nat.lt_of_lt_of_le h.lt hb.size⟩
theorem GlobOk.at_ {w : World} (h : GlobOk w) (i : Nat) (hi : i < 14) : w.cell? ⟨1, i, none⟩ = some (.int .i64 (aheadTab.getD i 0)) := h.tab.cell gAhead i (by simpa [aheadTab] using hi)

def cal_daysOf.f (y m : Int) : Option Int := if 1 ≤ m ∧ m ≤ 12 then some (dim y m) else none
def cal_number.f (y m d : Int) : Option Int := if vldB y m d = true then some (num y m d) else none

theorem leap_any (y : Int) (w : World) : Calls Tryd.prog 35 #[.int .i64 y] w fun e w' => e = .returned (.bool (lp y)) ∧ w = w' := by
  by_cases b4 : y % 4 = 0
  · have a1 : (Int.tmod y 4 == 0) = true := beq_iff_eq.mpr ((tm0 y 4).2 b4)
    by_cases b100 : y % 100 = 0
    · have a2 : (Int.tmod y 100 != 0) = false := bne_eq_false_iff_eq.mpr ((tm0 y 100).2 b100)
      by_cases b400 : y % 400 = 0
      · have a3 : (Int.tmod y 400 == 0) = true := beq_iff_eq.mpr ((tm0 y 400).2 b400)
        have hl : Hid (lp y = true) := (lp_iff y).2 ⟨b4, .inr b400⟩
        clear b4 b100 b400
        go_enter Tryd.func35, Tryd.ntmps35
        go_wp2
        go_ret
        exact ⟨by rw [hl.out]; rfl, rfl⟩
      · have a3 : (Int.tmod y 400 == 0) = false := beq_eq_false_iff_ne.mpr (fun z => b400 ((tm0 y 400).1 z))
        have hl : Hid (lp y = false) := (by cases hc : lp y with | false => rfl | true => have := (lp_iff y).1 hc; omega)
        clear b4 b100 b400
        go_enter Tryd.func35, Tryd.ntmps35
        go_wp2
        go_ret
        exact ⟨by rw [hl.out]; rfl, rfl⟩
    · have a2 : (Int.tmod y 100 != 0) = true := bne_iff_ne.mpr (fun z => b100 ((tm0 y 100).1 z))
      have hl : Hid (lp y = true) := (lp_iff y).2 ⟨b4, .inl b100⟩
      clear b4 b100
      go_enter Tryd.func35, Tryd.ntmps35
      go_wp2
      go_ret
      exact ⟨by rw [hl.out]; rfl, rfl⟩
  · have a1 : (Int.tmod y 4 == 0) = false := beq_eq_false_iff_ne.mpr (fun z => b4 ((tm0 y 4).1 z))
    have hl : Hid (lp y = false) := (by cases hc : lp y with | false => rfl | true => have := (lp_iff y).1 hc; omega)
    clear b4
    go_enter Tryd.func35, Tryd.ntmps35
    go_wp2
    go_ret
    exact ⟨by rw [hl.out]; rfl, rfl⟩

set_option maxHeartbeats 400000 in
theorem cal_daysOf.calls (y m r : Int) (w : World) (hG : GlobOk w) (h : cal_daysOf.f y m = some r) :
    Calls Tryd.prog 33 #[.int .i64 y, .int .i64 m] w fun e w' => e = .returned (.int .i64 r) ∧ Below w.heap.size w w' := by
  unfold cal_daysOf.f at h
  by_cases hm : 1 ≤ m ∧ m ≤ 12
  · rw [if_pos hm] at h
    obtain rfl := Option.some.inj h
    clear h
    have hB := Lib.hid hG
    clear hG
    obtain ⟨hm1, hm2⟩ := hm
    rcases m_cases m hm1 hm2 with rfl | rfl | rfl | rfl | rfl | rfl | rfl | rfl | rfl | rfl | rfl | rfl
    all_goals
      clear hm1 hm2
      have c1 := hB.out.at_ 1 (by omega)
      have c2 := hB.out.at_ 2 (by omega)
      have c3 := hB.out.at_ 3 (by omega)
      have c4 := hB.out.at_ 4 (by omega)
      have c5 := hB.out.at_ 5 (by omega)
      have c6 := hB.out.at_ 6 (by omega)
      have c7 := hB.out.at_ 7 (by omega)
      have c8 := hB.out.at_ 8 (by omega)
      have c9 := hB.out.at_ 9 (by omega)
      have c10 := hB.out.at_ 10 (by omega)
      have c11 := hB.out.at_ 11 (by omega)
      have c12 := hB.out.at_ 12 (by omega)
      have c13 := hB.out.at_ 13 (by omega)
      simp only [aheadTab, List.getD_cons_zero, List.getD_cons_succ] at c1 c2 c3 c4 c5 c6 c7 c8 c9 c10 c11 c12 c13
      have HL := Lib.hid (lpN_lp y)
      go_enter Tryd.func33, Tryd.ntmps33
      go_wp2
      go_quiet (fail)
      go_wp2_with (go_at_call 35; refine (leap_any _ _).mono ?_; rintro e w' ⟨rfl, rfl⟩)
      all_goals (go_ret; exact ⟨congrArg (fun z => Ending.returned (.int .i64 z)) (by rcases HL.out with ⟨h1, h2⟩ | ⟨h1, h2⟩ <;> simp_all [dim, cum]), below_drewN (Below.refl _ _) _⟩)
  · rw [if_neg hm] at h; cases h

theorem begin_any (y : Int) (h1 : 0 ≤ y) (h2 : y ≤ 10000) (w : World) : Calls Tryd.prog 34 #[.int .i64 y] w fun e w' => e = .returned (.int .i64 (beg y)) ∧ w = w' := by
  have hb := Lib.hid (show beg y = 365 * y + (y + 3) / 4 - (y + 99) / 100 + (y + 399) / 400 from by unfold beg; rw [if_neg (by omega)])
  go_enter Tryd.func34, Tryd.ntmps34
  go_wp2
  go_ret
  exact ⟨by rw [hb.out]; rfl, rfl⟩

set_option maxHeartbeats 1000000 in
theorem cal_number.calls (y m d r : Int) (w : World) (hG : GlobOk w) (h : cal_number.f y m d = some r) :
    Calls Tryd.prog 20 #[.agg #[.int .i64 y, .int .i64 m, .int .i64 d]] w fun e w' => e = .returned (.int .i64 r) ∧ Below w.heap.size w w' := by
  unfold cal_number.f at h
  by_cases hm : vldB y m d = true
  · rw [if_pos hm] at h
    obtain rfl := Option.some.inj h
    clear h
    have hB := Lib.hid hG
    clear hG
    obtain ⟨hy1, hy2, hm1, hm2, hd1, hd2⟩ := vld_out hm
    have hd3 : d ≤ 31 := by have := dim_bd y m hm1 hm2; omega
    have hbb := beg_bd y hy1 (by omega)
    obtain ⟨hb1, hb2, _, _⟩ := hbb
    clear hm hd2
    rcases m_cases m hm1 hm2 with rfl | rfl | rfl | rfl | rfl | rfl | rfl | rfl | rfl | rfl | rfl | rfl
    all_goals
      clear hm1 hm2
      have c1 := hB.out.at_ 1 (by omega)
      have c2 := hB.out.at_ 2 (by omega)
      have c3 := hB.out.at_ 3 (by omega)
      have c4 := hB.out.at_ 4 (by omega)
      have c5 := hB.out.at_ 5 (by omega)
      have c6 := hB.out.at_ 6 (by omega)
      have c7 := hB.out.at_ 7 (by omega)
      have c8 := hB.out.at_ 8 (by omega)
      have c9 := hB.out.at_ 9 (by omega)
      have c10 := hB.out.at_ 10 (by omega)
      have c11 := hB.out.at_ 11 (by omega)
      have c12 := hB.out.at_ 12 (by omega)
      simp only [aheadTab, List.getD_cons_zero, List.getD_cons_succ] at c1 c2 c3 c4 c5 c6 c7 c8 c9 c10 c11 c12
      have HL := Lib.hid (lpN_lp y)
      have hlt := hB.out.lt
      go_enter Tryd.func20, Tryd.ntmps20
      go_wp2
      go_quiet ((go_at_call 34; exact Calls.quiet_of_same ((begin_any _ (by omega) (by omega) _).mono (fun e w' h => ⟨h.1, h.2.symm⟩))))
      go_wp2_with (go_at_call 35; refine (leap_any _ _).mono ?_; rintro e w' ⟨rfl, rfl⟩)
      all_goals (go_ret; exact ⟨congrArg (fun z => Ending.returned (.int .i64 z)) (by rcases HL.out with ⟨h1, h2⟩ | ⟨h1, h2⟩ <;> simp_all [num, ahd, cum] <;> omega), below_drewN ((Below.refl _ _).alloc (Nat.le_refl _) _) _⟩)
  · rw [if_neg hm] at h; cases h
end Go.Proofs.YtjifinacnofmiaaDoor.Ext
