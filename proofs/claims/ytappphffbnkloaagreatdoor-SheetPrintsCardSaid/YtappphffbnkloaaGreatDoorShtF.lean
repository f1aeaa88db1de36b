/- The reader's states, walked: the rest of them. -/
import Derived.Test.YtappphffbnkloaaGreatDoorShtE
set_option linter.unusedVariables false
set_option linter.unusedSimpArgs false
namespace Go.Proofs.YtappphffbnkloaaGreatDoor.Sht
open Go Go.RowKit Go.Joins
attribute [local go_sem ↓] Go.wp_at_zero Go.wp_at_succ
variable {A : Nat → Addr} {W0 W : World} {b : Nat} {s : RS}
theorem RD.mark {vc vr vl fl : Value} {lv : List Value} (h : RD A W0 W b s vc vr vl fl lv) : R A W0 ((W.setCell ⟨b, 5, none⟩ (I s.line)).setCell ⟨b, 6, none⟩ (I s.col)) b s.mark ∧ Fr b W ((W.setCell ⟨b, 5, none⟩ (I s.line)).setCell ⟨b, 6, none⟩ (I s.col)) := by
  have h1 := h.set 5 (I s.line) { s with ml := s.line } rfl rfl rfl rfl rfl
  have h2 := h1.set 6 (I s.col) s.mark rfl rfl rfl rfl rfl
  exact ⟨R.mk h2, (h.set_fr h1 rfl rfl rfl).trans (h1.set_fr h2 rfl rfl rfl)⟩
theorem endCell_row (s : RS) : s.endCell.row.length = s.row.length + 1 := by simp [RS.endCell]
set_option maxHeartbeats 2000000 in
set_option maxRecDepth 100000 in
theorem stop_no (x : UInt8) (h1 : x ≠ 44) (h2 : x ≠ 13) (w : World) : Calls Tryz.prog 101 #[PT b, .int .u8 (x.toNat : Int)] w fun e w' => e = .returned (.bool false) ∧ w = w' := by
  have q1 : ((x.toNat : Int) == 44) = false := byte_ne h1
  have q2 : ((x.toNat : Int) == 13) = false := byte_ne h2
  clear h1 h2
  go_enter Tryz.func101, Tryz.ntmps101
  go_wp2
  go_ret
  exact ⟨rfl, rfl⟩
set_option maxHeartbeats 2000000 in
set_option maxRecDepth 100000 in
theorem stop_cr (hF : SF W0 A) (x : UInt8) (h2 : x = 13) {N : Nat} (hB : s.Bd N) (hN : N ≤ 1099511627776) (hR : R A W0 W b s) :
    Calls Tryz.prog 101 #[PT b, .int .u8 (x.toNat : Int)] W fun e w' => e = .returned (.bool true) ∧ R A W0 w' b s.cr ∧ Fr b W w' := by
  have q1 : ((x.toNat : Int) == 44) = false := byte_ne (show x ≠ 44 by rw [h2]; decide)
  have q2 : ((x.toNat : Int) == 13) = true := byte_eq h2
  have HE := Lib.hid (endCell_r hF hB hN hR)
  have HT := Lib.hid (turn_fn (A := A) (W0 := W0) (b := b) .back _ _ rfl rfl)
  clear h2 hB hR
  go_enter Tryz.func101, Tryz.ntmps101
  go_wp2_with (first
    | (go_at_call 102; (with_reducible refine HE.out.mono ?_); rintro e w1 ⟨rfl, hR1, hF1⟩; obtain ⟨vc, vr, vl, fl, lv, h⟩ := hR1; obtain ⟨_, _, c2, c3, _, c5, c6, _⟩ := h.cells; obtain ⟨_, _, _, _, _, f5, f6, _⟩ := h.free; have HH := Lib.hid h; have HF := Lib.hid hF1; clear h hF1)
    | (go_at_call 34; (with_reducible refine (HT.out _ _ HH.out.mark.1).mono ?_); rintro e w2 ⟨rfl, hR2, hF2⟩))
  go_ret
  exact ⟨rfl, hR2, (HF.out.trans HH.out.mark.2).trans hF2⟩
set_option maxHeartbeats 2000000 in
set_option maxRecDepth 100000 in
theorem stop_comma (hF : SF W0 A) (x : UInt8) (h2 : x = 44) {N : Nat} (hB : s.Bd N) (hN : N ≤ 1099511627776) (hR : R A W0 W b s) :
    Calls Tryz.prog 101 #[PT b, .int .u8 (x.toNat : Int)] W fun e w' => e = .returned (.bool true) ∧ R A W0 w' b s.comma ∧ Fr b W w' := by
  have q1 : ((x.toNat : Int) == 44) = true := byte_eq h2
  have HE := Lib.hid (endCell_r hF hB hN hR)
  have HT := Lib.hid (turn_fn (A := A) (W0 := W0) (b := b) .start _ _ rfl rfl)
  have HS := Lib.hid hF
  clear h2 hB hR hF
  by_cases hq : s.endCell.row.length = 64
  · have q2 : ((s.endCell.row.length : Int) == 64) = true := by simp [hq]
    have HQ := Lib.hid hq
    clear hq
    go_enter Tryz.func101, Tryz.ntmps101
    go_wp2_with (go_at_call 102; (with_reducible refine HE.out.mono ?_); rintro e w1 ⟨rfl, hR1, hF1⟩; obtain ⟨c2, c3, _, _, gE⟩ := hR1.atCells HS.out 6 (cod (by omega)); replace gE := gE.trans (rfl : _ = some (errV A 6)); have HR1 := Lib.hid hR1; obtain ⟨vc, vr, vl, fl, lv, h⟩ := hR1; obtain ⟨gr, cr, rfl, _⟩ := h.hr.form (by rw [endCell_row]; omega); obtain ⟨_, _, _, _, _, _, _, _, c8, _⟩ := h.cells; have HF := Lib.hid hF1; clear h hF1)
    have gE' : w1.cell? ⟨9, 0, none⟩ = some (errV A 6) := gE
    go_still_tail 6, (by kernel_rfl)
    change wpList _ _ _ _ _ w1.drew
    have HL := Lib.hid (fail_r s.endCell.line s.endCell.col 6 (cod (by omega)) HR1.out.drew)
    go_wp2_with (first
      | (go_at_call 45; (with_reducible refine HL.out.mono ?_); rintro e w2 ⟨rfl, hR2, hF2⟩)
      | (go_at_call 34; (with_reducible refine (HT.out _ _ hR2).mono ?_); rintro e w3 ⟨rfl, hR3, hF3⟩))
    go_ret
    refine ⟨rfl, ?_, (HF.out.drew.trans hF2).trans hF3⟩
    rw [RS.comma, if_pos HQ.out]
    exact hR3
  · have q2 : ((s.endCell.row.length : Int) == 64) = false := by simp; omega
    have HQ := Lib.hid hq
    clear hq
    go_enter Tryz.func101, Tryz.ntmps101
    go_wp2_with (first
      | (go_at_call 102; (with_reducible refine HE.out.mono ?_); rintro e w1 ⟨rfl, hR1, hF1⟩; have HR1 := Lib.hid hR1; obtain ⟨vc, vr, vl, fl, lv, h⟩ := hR1; obtain ⟨gr, cr, rfl, _⟩ := h.hr.form (by rw [endCell_row]; omega); obtain ⟨_, _, _, _, _, _, _, _, c8, _⟩ := h.cells; have HF := Lib.hid hF1; clear h hF1)
      | (go_at_call 34; (with_reducible refine (HT.out _ _ HR1.out).mono ?_); rintro e w3 ⟨rfl, hR3, hF3⟩))
    go_ret
    refine ⟨rfl, ?_, HF.out.trans hF3⟩
    rw [RS.comma, if_neg HQ.out]
    exact hR3
end Go.Proofs.YtappphffbnkloaaGreatDoor.Sht
