-- written by a program (gp.py over the kit's print) for this claim
import Derived.Test.YtofafljfabgpmaaGCx0
namespace Go.Proofs.Ytofafljfabgpmaa.GC
open Go.RowKit Go.Proofs.YtofafljfabgpmaaW.PrintWords Go.Proofs.YtofafljfabgpmaaW.PrintLast Go.Proofs.Ytofafljfabgpmaa.Ext
attribute [local go_sem] max2_int min2_int max_two min_two   -- for this text alone
set_option linter.unusedVariables false
set_option linter.unusedSimpArgs false

/-! ### larderref03_rank: function 14 -/
def larderref03_rank.f (a0 : Int) (a1 : Bool) : Option (Int) := if a1 = true then (if a0 = 72 then (some 5) else (if a0 = 77 then (some 6) else (if a0 = 83 then (some 7) else (some 0)))) else (if a0 = 89 then (some 1) else (if a0 = 77 then (some 2) else (if a0 = 68 then (some 3) else (some 0))))
set_option maxHeartbeats 8000000 in
set_option maxRecDepth 100000 in
theorem larderref03_rank.calls (a0 : Int) (a1 : Bool) (r : Int) (w : World) (h : larderref03_rank.f a0 a1 = some r) :
    Calls Try.prog 14 #[.int .u8 a0, .bool a1] w fun e w' => e = .returned (.int .i64 r) ∧ Drawn0 w w' := by
  have H : (if a1 = true then (if a0 = 72 then (some 5) else (if a0 = 77 then (some 6) else (if a0 = 83 then (some 7) else (some 0)))) else (if a0 = 89 then (some 1) else (if a0 = 77 then (some 2) else (if a0 = 68 then (some 3) else (some 0))))) = some r := h
  clear h
  by_cases c3 : a1 = true
  · subst c3
    have H1 : (if a0 = 72 then (some 5) else (if a0 = 77 then (some 6) else (if a0 = 83 then (some 7) else (some 0)))) = some r := by rw [if_pos rfl] at H; exact H
    clear H
    have H := H1
    clear H1
    by_cases c4 : a0 = 72
    · rw [if_pos c4] at H
      have c4b0 : (a0 == 72) = true := beq_iff_eq.mpr c4
      have c4b1 : (a0 != 72) = false := bne_eq_false_iff_eq.mpr c4
      clear c4
      obtain rfl := Option.some.inj H
      go_enter Try.func14, Try.ntmps14
      go_wp2
      go_ret
      exact ⟨by first | rfl | (simp; done) | (simp [*]; done), by repeat (first | exact Drawn0.refl _ | apply Drawn0.step)⟩
    · rw [if_neg c4] at H
      have c4b0 : (a0 == 72) = false := beq_eq_false_iff_ne.mpr c4
      have c4b1 : (a0 != 72) = true := bne_iff_ne.mpr c4
      by_cases c5 : a0 = 77
      · rw [if_pos c5] at H
        have c5b0 : (a0 == 77) = true := beq_iff_eq.mpr c5
        have c5b1 : (a0 != 77) = false := bne_eq_false_iff_eq.mpr c5
        clear c5
        obtain rfl := Option.some.inj H
        go_enter Try.func14, Try.ntmps14
        go_wp2
        go_ret
        exact ⟨by first | rfl | (simp; done) | (simp [*]; done), by repeat (first | exact Drawn0.refl _ | apply Drawn0.step)⟩
      · rw [if_neg c5] at H
        have c5b0 : (a0 == 77) = false := beq_eq_false_iff_ne.mpr c5
        have c5b1 : (a0 != 77) = true := bne_iff_ne.mpr c5
        by_cases c6 : a0 = 83
        · rw [if_pos c6] at H
          have c6b0 : (a0 == 83) = true := beq_iff_eq.mpr c6
          have c6b1 : (a0 != 83) = false := bne_eq_false_iff_eq.mpr c6
          clear c6
          obtain rfl := Option.some.inj H
          go_enter Try.func14, Try.ntmps14
          go_wp2
          go_ret
          exact ⟨by first | rfl | (simp; done) | (simp [*]; done), by repeat (first | exact Drawn0.refl _ | apply Drawn0.step)⟩
        · rw [if_neg c6] at H
          have c6b0 : (a0 == 83) = false := beq_eq_false_iff_ne.mpr c6
          have c6b1 : (a0 != 83) = true := bne_iff_ne.mpr c6
          obtain rfl := Option.some.inj H
          go_enter Try.func14, Try.ntmps14
          go_wp2
          go_ret
          exact ⟨by first | rfl | (simp; done) | (simp [*]; done), by repeat (first | exact Drawn0.refl _ | apply Drawn0.step)⟩
  · replace c3 := Bool.eq_false_iff.mpr c3
    subst c3
    have H1 : (if a0 = 89 then (some 1) else (if a0 = 77 then (some 2) else (if a0 = 68 then (some 3) else (some 0)))) = some r := by rw [if_neg (show ¬ (false = true) by decide)] at H; exact H
    clear H
    have H := H1
    clear H1
    by_cases c7 : a0 = 89
    · rw [if_pos c7] at H
      have c7b0 : (a0 == 89) = true := beq_iff_eq.mpr c7
      have c7b1 : (a0 != 89) = false := bne_eq_false_iff_eq.mpr c7
      clear c7
      obtain rfl := Option.some.inj H
      go_enter Try.func14, Try.ntmps14
      go_wp2
      go_ret
      exact ⟨by first | rfl | (simp; done) | (simp [*]; done), by repeat (first | exact Drawn0.refl _ | apply Drawn0.step)⟩
    · rw [if_neg c7] at H
      have c7b0 : (a0 == 89) = false := beq_eq_false_iff_ne.mpr c7
      have c7b1 : (a0 != 89) = true := bne_iff_ne.mpr c7
      by_cases c8 : a0 = 77
      · rw [if_pos c8] at H
        have c8b0 : (a0 == 77) = true := beq_iff_eq.mpr c8
        have c8b1 : (a0 != 77) = false := bne_eq_false_iff_eq.mpr c8
        clear c8
        obtain rfl := Option.some.inj H
        go_enter Try.func14, Try.ntmps14
        go_wp2
        go_ret
        exact ⟨by first | rfl | (simp; done) | (simp [*]; done), by repeat (first | exact Drawn0.refl _ | apply Drawn0.step)⟩
      · rw [if_neg c8] at H
        have c8b0 : (a0 == 77) = false := beq_eq_false_iff_ne.mpr c8
        have c8b1 : (a0 != 77) = true := bne_iff_ne.mpr c8
        by_cases c9 : a0 = 68
        · rw [if_pos c9] at H
          have c9b0 : (a0 == 68) = true := beq_iff_eq.mpr c9
          have c9b1 : (a0 != 68) = false := bne_eq_false_iff_eq.mpr c9
          clear c9
          obtain rfl := Option.some.inj H
          go_enter Try.func14, Try.ntmps14
          go_wp2
          go_ret
          exact ⟨by first | rfl | (simp; done) | (simp [*]; done), by repeat (first | exact Drawn0.refl _ | apply Drawn0.step)⟩
        · rw [if_neg c9] at H
          have c9b0 : (a0 == 68) = false := beq_eq_false_iff_ne.mpr c9
          have c9b1 : (a0 != 68) = true := bne_iff_ne.mpr c9
          obtain rfl := Option.some.inj H
          go_enter Try.func14, Try.ntmps14
          go_wp2
          go_ret
          exact ⟨by first | rfl | (simp; done) | (simp [*]; done), by repeat (first | exact Drawn0.refl _ | apply Drawn0.step)⟩

end Go.Proofs.Ytofafljfabgpmaa.GC
