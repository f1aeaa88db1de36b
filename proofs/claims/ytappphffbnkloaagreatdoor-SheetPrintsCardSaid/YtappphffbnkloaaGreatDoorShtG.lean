/- The reader's states, walked: what the next byte meets. -/
import Derived.Test.YtappphffbnkloaaGreatDoorShtF
set_option linter.unusedVariables false
set_option linter.unusedSimpArgs false
namespace Go.Proofs.YtappphffbnkloaaGreatDoor.Sht
open Go Go.RowKit Go.Joins
attribute [local go_sem ↓] Go.wp_at_zero Go.wp_at_succ
variable {A : Nat → Addr} {W0 W : World} {b : Nat} {s : RS}
set_option maxHeartbeats 4000000 in
set_option maxRecDepth 100000 in
theorem plain_r (hF : SF W0 A) (x : UInt8) {N : Nat} (hB : s.Bd N) (hN : N ≤ 1099511627776) (hR : R A W0 W b s) : Does A W0 W b (s.plain x) 88 #[PT b, .int .u8 (x.toNat : Int)] := by
  have HA := Lib.hid (allowed_r x)
  have HP := Lib.hid (put_r hF x hB hN hR)
  obtain ⟨c2, c3, _, _, gE4⟩ := hR.atCells hF 4 (cod (by omega))
  obtain ⟨_, _, _, _, gE3⟩ := hR.atCells hF 3 (cod (by omega))
  obtain ⟨_, _, _, _, gE2⟩ := hR.atCells hF 2 (cod (by omega))
  replace gE4 : W.cell? ⟨7, 0, none⟩ = some (errV A 4) := gE4
  replace gE3 : W.cell? ⟨1, 0, none⟩ = some (errV A 3) := gE3
  replace gE2 : W.cell? ⟨6, 0, none⟩ = some (errV A 2) := gE2
  have HL4 := Lib.hid (fail_r s.line s.col 4 (cod (by omega)) hR.drew)
  have HL3 := Lib.hid (fail_r s.line s.col 3 (cod (by omega)) hR.drew)
  have HL2 := Lib.hid (fail_r s.line s.col 2 (cod (by omega)) hR.drew)
  by_cases h44 : x = 44
  · have HS := Lib.hid (stop_comma hF x h44 hB hN hR)
    have e : s.plain x = s.comma := by rw [RS.plain, if_pos h44]
    rw [e]
    clear hR hB h44 e
    go_enter Tryz.func88, Tryz.ntmps88
    go_wp2_with (go_at_call 101; (with_reducible refine HS.out.mono ?_); rintro e w1 ⟨rfl, hR1, hF1⟩)
    go_end0
    exact ⟨rfl, hR1, hF1⟩
  by_cases h13 : x = 13
  · have HS := Lib.hid (stop_cr hF x h13 hB hN hR)
    have e : s.plain x = s.cr := by rw [RS.plain, if_neg h44, if_pos h13]
    rw [e]
    clear hR hB h13 h44 e
    go_enter Tryz.func88, Tryz.ntmps88
    go_wp2_with (go_at_call 101; (with_reducible refine HS.out.mono ?_); rintro e w1 ⟨rfl, hR1, hF1⟩)
    go_end0
    exact ⟨rfl, hR1, hF1⟩
  have HS := Lib.hid (stop_no (b := b) x h44 h13)
  clear hR hB
  by_cases h10 : x = 10
  · have e : s.plain x = s.fail s.line s.col 3 := by rw [RS.plain, if_neg h44, if_neg h13, if_pos h10]
    rw [e]
    have q10 : ((x.toNat : Int) == 10) = true := byte_eq h10
    clear h44 h13 e h10
    go_enter Tryz.func88, Tryz.ntmps88
    go_wp2_with (first | (go_at_call 101; (with_reducible refine (HS.out _).mono ?_); rintro e w1 ⟨rfl, rfl⟩))
    go_still_tail 6, (by kernel_rfl)
    change wpList _ _ _ _ _ W.drew
    go_wp2_with (go_at_call 45; (with_reducible refine HL3.out.mono ?_); rintro e w1 ⟨rfl, hR1, hF1⟩)
    go_end0
    refine ⟨rfl, ?_, (Fr.refl b _).drew.trans hF1⟩
    exact hR1
  by_cases h34 : x = 34
  · have e : s.plain x = s.fail s.line s.col 2 := by rw [RS.plain, if_neg h44, if_neg h13, if_neg h10, if_pos h34]
    rw [e]
    have q10 : ((x.toNat : Int) == 10) = false := byte_ne h10
    have q34 : ((x.toNat : Int) == 34) = true := byte_eq h34
    clear h44 h13 e h10 h34
    go_enter Tryz.func88, Tryz.ntmps88
    go_wp2_with (first | (go_at_call 101; (with_reducible refine (HS.out _).mono ?_); rintro e w1 ⟨rfl, rfl⟩))
    go_still_tail 6, (by kernel_rfl)
    change wpList _ _ _ _ _ W.drew
    go_wp2_with (go_at_call 45; (with_reducible refine HL2.out.mono ?_); rintro e w1 ⟨rfl, hR1, hF1⟩)
    go_end0
    refine ⟨rfl, ?_, (Fr.refl b _).drew.trans hF1⟩
    exact hR1
  by_cases h9 : x = 9
  · have e : s.plain x = s.fail s.line s.col 4 := by rw [RS.plain, if_neg h44, if_neg h13, if_neg h10, if_neg h34, if_pos (.inl h9)]
    rw [e]
    have q10 : ((x.toNat : Int) == 10) = false := byte_ne h10
    have q34 : ((x.toNat : Int) == 34) = false := byte_ne h34
    have q9 : ((x.toNat : Int) == 9) = true := byte_eq h9
    clear h44 h13 e h10 h34 h9
    go_enter Tryz.func88, Tryz.ntmps88
    go_wp2_with (first | (go_at_call 101; (with_reducible refine (HS.out _).mono ?_); rintro e w1 ⟨rfl, rfl⟩))
    go_still_tail 6, (by kernel_rfl)
    change wpList _ _ _ _ _ W.drew
    go_wp2_with (go_at_call 45; (with_reducible refine HL4.out.mono ?_); rintro e w1 ⟨rfl, hR1, hF1⟩)
    go_end0
    refine ⟨rfl, ?_, (Fr.refl b _).drew.trans hF1⟩
    exact hR1
  by_cases hk : okB x = false
  · have e : s.plain x = s.fail s.line s.col 4 := by rw [RS.plain, if_neg h44, if_neg h13, if_neg h10, if_neg h34, if_pos (.inr hk)]
    rw [e]
    have q10 : ((x.toNat : Int) == 10) = false := byte_ne h10
    have q34 : ((x.toNat : Int) == 34) = false := byte_ne h34
    have q9 : ((x.toNat : Int) == 9) = false := byte_ne h9
    rw [hk] at HA
    clear h44 h13 e h10 h34 h9 hk
    go_enter Tryz.func88, Tryz.ntmps88
    go_wp2_with (first | (go_at_call 101; (with_reducible refine (HS.out _).mono ?_); rintro e w1 ⟨rfl, rfl⟩) | (go_at_call 99; (with_reducible refine (HA.out _).mono ?_); rintro e w1 ⟨rfl, rfl⟩))
    go_still_tail 6, (by kernel_rfl)
    change wpList _ _ _ _ _ W.drew
    go_wp2_with (go_at_call 45; (with_reducible refine HL4.out.mono ?_); rintro e w1 ⟨rfl, hR1, hF1⟩)
    go_end0
    refine ⟨rfl, ?_, (Fr.refl b _).drew.trans hF1⟩
    exact hR1
  · have e : s.plain x = s.put x := by rw [RS.plain, if_neg h44, if_neg h13, if_neg h10, if_neg h34, if_neg (by simp only [h9, hk]; decide)]
    rw [e]
    have q10 : ((x.toNat : Int) == 10) = false := byte_ne h10
    have q34 : ((x.toNat : Int) == 34) = false := byte_ne h34
    have q9 : ((x.toNat : Int) == 9) = false := byte_ne h9
    rw [show okB x = true by simpa using hk] at HA
    clear h44 h13 e h10 h34 h9 hk
    go_enter Tryz.func88, Tryz.ntmps88
    go_wp2_with (first | (go_at_call 101; (with_reducible refine (HS.out _).mono ?_); rintro e w1 ⟨rfl, rfl⟩) | (go_at_call 99; (with_reducible refine (HA.out _).mono ?_); rintro e w1 ⟨rfl, rfl⟩) | (go_at_call 100; (with_reducible refine HP.out.mono ?_); rintro e w1 ⟨rfl, hR1, hF1⟩))
    go_end0
    exact ⟨rfl, hR1, hF1⟩
theorem RS.Bd.turn {N : Nat} (h : s.Bd N) (m : Md) : (s.turn m).Bd N := ⟨h.line, h.col, h.all, h.ml, h.mc, h.cell, h.row, h.rows, h.count, h.width⟩
set_option maxHeartbeats 4000000 in
set_option maxRecDepth 100000 in
theorem closed_r (hF : SF W0 A) (x : UInt8) {N : Nat} (hB : s.Bd N) (hN : N ≤ 1099511627776) (hR : R A W0 W b s) : Does A W0 W b (s.closed x) 98 #[PT b, .int .u8 (x.toNat : Int)] := by
  obtain ⟨c2, c3, _, _, gE3⟩ := hR.atCells hF 3 (cod (by omega))
  obtain ⟨_, _, _, _, gE2⟩ := hR.atCells hF 2 (cod (by omega))
  replace gE3 : W.cell? ⟨1, 0, none⟩ = some (errV A 3) := gE3
  replace gE2 : W.cell? ⟨6, 0, none⟩ = some (errV A 2) := gE2
  have HL3 := Lib.hid (fail_r s.line s.col 3 (cod (by omega)) hR.drew)
  have HL2 := Lib.hid (fail_r s.line s.col 2 (cod (by omega)) hR.drew)
  by_cases h34 : x = 34
  · have HT := Lib.hid (turn_fn .quoted _ _ rfl rfl W s hR)
    have HB := Lib.hid (hB.turn .quoted)
    have HFF := Lib.hid hF
    have e : s.closed x = (s.turn .quoted).put x := by rw [RS.closed, if_pos h34]
    rw [e]
    have q34 : ((x.toNat : Int) == 34) = true := byte_eq h34
    clear hR hB h34 hF e
    go_enter Tryz.func98, Tryz.ntmps98
    go_wp2_with (first
      | (go_at_call 34; (with_reducible refine HT.out.mono ?_); rintro e w1 ⟨rfl, hR1, hF1⟩; have HP := Lib.hid (put_r (N := N) HFF.out x HB.out hN hR1))
      | (go_at_call 100; (with_reducible refine HP.out.mono ?_); rintro e w2 ⟨rfl, hR2, hF2⟩))
    go_end0
    exact ⟨rfl, hR2, hF1.trans hF2⟩
  by_cases h44 : x = 44
  · have HS := Lib.hid (stop_comma hF x h44 hB hN hR)
    have e : s.closed x = s.comma := by rw [RS.closed, if_neg h34, if_pos h44]
    rw [e]
    have q34 : ((x.toNat : Int) == 34) = false := byte_ne h34
    clear hR hB h44 h34 e
    go_enter Tryz.func98, Tryz.ntmps98
    go_wp2_with (go_at_call 101; (with_reducible refine HS.out.mono ?_); rintro e w1 ⟨rfl, hR1, hF1⟩)
    go_end0
    exact ⟨rfl, hR1, hF1⟩
  by_cases h13 : x = 13
  · have HS := Lib.hid (stop_cr hF x h13 hB hN hR)
    have e : s.closed x = s.cr := by rw [RS.closed, if_neg h34, if_neg h44, if_pos h13]
    rw [e]
    have q34 : ((x.toNat : Int) == 34) = false := byte_ne h34
    clear hR hB h13 h44 h34 e
    go_enter Tryz.func98, Tryz.ntmps98
    go_wp2_with (go_at_call 101; (with_reducible refine HS.out.mono ?_); rintro e w1 ⟨rfl, hR1, hF1⟩)
    go_end0
    exact ⟨rfl, hR1, hF1⟩
  have HS := Lib.hid (stop_no (b := b) x h44 h13)
  clear hR hB
  have q34 : ((x.toNat : Int) == 34) = false := byte_ne h34
  by_cases h10 : x = 10
  · have e : s.closed x = s.fail s.line s.col 3 := by rw [RS.closed, if_neg h34, if_neg h44, if_neg h13, if_pos h10]
    rw [e]
    have q10 : ((x.toNat : Int) == 10) = true := byte_eq h10
    clear h34 h44 h13 h10 e
    go_enter Tryz.func98, Tryz.ntmps98
    go_wp2_with (go_at_call 101; (with_reducible refine (HS.out _).mono ?_); rintro e w1 ⟨rfl, rfl⟩)
    go_still_tail 6, (by kernel_rfl)
    change wpList _ _ _ _ _ W.drew
    go_wp2_with (go_at_call 45; (with_reducible refine HL3.out.mono ?_); rintro e w1 ⟨rfl, hR1, hF1⟩)
    go_end0
    refine ⟨rfl, ?_, (Fr.refl b _).drew.trans hF1⟩
    exact hR1
  · have e : s.closed x = s.fail s.line s.col 2 := by rw [RS.closed, if_neg h34, if_neg h44, if_neg h13, if_neg h10]
    rw [e]
    have q10 : ((x.toNat : Int) == 10) = false := byte_ne h10
    clear h34 h44 h13 h10 e
    go_enter Tryz.func98, Tryz.ntmps98
    go_wp2_with (go_at_call 101; (with_reducible refine (HS.out _).mono ?_); rintro e w1 ⟨rfl, rfl⟩)
    go_still_tail 6, (by kernel_rfl)
    change wpList _ _ _ _ _ W.drew
    go_wp2_with (go_at_call 45; (with_reducible refine HL2.out.mono ?_); rintro e w1 ⟨rfl, hR1, hF1⟩)
    go_end0
    refine ⟨rfl, ?_, (Fr.refl b _).drew.trans hF1⟩
    exact hR1
set_option maxHeartbeats 4000000 in
set_option maxRecDepth 100000 in
theorem back_r (hF : SF W0 A) (x : UInt8) {N : Nat} (hB : s.Bd N) (hN : N ≤ 1099511627776) (hne : 0 < s.row.length) (hR : R A W0 W b s) : Does A W0 W b (s.back x) 112 #[PT b, .int .u8 (x.toNat : Int)] := by
  obtain ⟨_, _, c5, c6, gE3⟩ := hR.atCells hF 3 (cod (by omega))
  replace gE3 : W.cell? ⟨1, 0, none⟩ = some (errV A 3) := gE3
  have HL3 := Lib.hid (fail_r s.ml s.mc 3 (cod (by omega)) hR.drew)
  have HE := Lib.hid (endRow_r hF s.ml s.mc hB hN hne hR)
  clear hR hB
  by_cases h10 : x = 10
  · have q : ((x.toNat : Int) != 10) = false := by
      have := byte_eq h10
      rw [bne, show (10 : Int) = ((10 : UInt8).toNat : Int) from rfl, this]; rfl
    have e : s.back x = s.endRow s.ml s.mc := by rw [RS.back, if_pos h10]
    rw [e]
    clear h10 e
    go_enter Tryz.func112, Tryz.ntmps112
    go_wp2_with (go_at_call 103; (with_reducible refine HE.out.mono ?_); rintro e w1 ⟨rfl, hR1, hF1⟩)
    go_end0
    exact ⟨rfl, hR1, hF1⟩
  · have q : ((x.toNat : Int) != 10) = true := by
      have := byte_ne h10
      rw [bne, show (10 : Int) = ((10 : UInt8).toNat : Int) from rfl, this]; rfl
    have e : s.back x = s.fail s.ml s.mc 3 := by rw [RS.back, if_neg h10]
    rw [e]
    clear h10 e
    go_enter Tryz.func112, Tryz.ntmps112
    go_wp2
    go_still_tail 6, (by kernel_rfl)
    change wpList _ _ _ _ _ W.drew
    go_wp2_with (go_at_call 45; (with_reducible refine HL3.out.mono ?_); rintro e w1 ⟨rfl, hR1, hF1⟩)
    refine bodyPost_ret (results_none rfl _ _ _) rfl ?_
    exact ⟨rfl, hR1, (Fr.refl b _).drew.trans hF1⟩
end Go.Proofs.YtappphffbnkloaaGreatDoor.Sht
