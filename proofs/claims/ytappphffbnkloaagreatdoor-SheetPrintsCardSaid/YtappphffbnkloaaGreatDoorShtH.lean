/- The reader's states, walked: the first byte of a row and of a cell; the text's end; what is told. -/
import Derived.Test.YtappphffbnkloaaGreatDoorShtG
set_option linter.unusedVariables false
set_option linter.unusedSimpArgs false
namespace Go.Proofs.YtappphffbnkloaaGreatDoor.Sht
open Go Go.RowKit Go.Joins
attribute [local go_sem ↓] Go.wp_at_zero Go.wp_at_succ
variable {A : Nat → Addr} {W0 W : World} {b : Nat} {s : RS}
set_option maxHeartbeats 4000000 in
set_option maxRecDepth 100000 in
theorem start_r (hF : SF W0 A) (x : UInt8) {N : Nat} (hB : s.Bd N) (hN : N ≤ 1099511627776) (hR : R A W0 W b s) : Does A W0 W b (s.start x) 69 #[PT b, .int .u8 (x.toNat : Int)] := by
  by_cases h34 : x = 34
  · have q : ((x.toNat : Int) == 34) = true := byte_eq h34
    have e : s.start x = s.mark.turn .quoted := by rw [RS.start, if_pos h34]
    rw [e]
    obtain ⟨vc, vr, vl, fl, lv, h⟩ := hR
    obtain ⟨_, _, c2, c3, _, c5, c6, _⟩ := h.cells
    obtain ⟨_, _, _, _, _, f5, f6, _⟩ := h.free
    have HH := Lib.hid h
    have HT := Lib.hid (turn_fn (A := A) (W0 := W0) (b := b) .quoted _ _ rfl rfl)
    clear h h34 e hB
    go_enter Tryz.func69, Tryz.ntmps69
    go_wp2_with (go_at_call 34; (with_reducible refine (HT.out _ _ HH.out.mark.1).mono ?_); rintro e w1 ⟨rfl, hR1, hF1⟩)
    refine bodyPost_ret (results_none rfl _ _ _) rfl ?_
    exact ⟨rfl, hR1, HH.out.mark.2.trans hF1⟩
  · have q : ((x.toNat : Int) == 34) = false := byte_ne h34
    have e : s.start x = (s.turn .plain).plain x := by rw [RS.start, if_neg h34]
    rw [e]
    have HT := Lib.hid (turn_fn .plain _ _ rfl rfl W s hR)
    have HB := Lib.hid (hB.turn .plain)
    have HFF := Lib.hid hF
    clear hR hB h34 hF e
    go_enter Tryz.func69, Tryz.ntmps69
    go_wp2_with (first
      | (go_at_call 34; (with_reducible refine HT.out.mono ?_); rintro e w1 ⟨rfl, hR1, hF1⟩; have HP := Lib.hid (plain_r (N := N) HFF.out x HB.out hN hR1))
      | (go_at_call 88; (with_reducible refine HP.out.mono ?_); rintro e w2 ⟨rfl, hR2, hF2⟩))
    go_end0
    exact ⟨rfl, hR2, hF1.trans hF2⟩
set_option maxHeartbeats 4000000 in
set_option maxRecDepth 100000 in
theorem fresh_r (hF : SF W0 A) (x : UInt8) {N : Nat} (hB : s.Bd N) (hN : N ≤ 1099511627776) (hR : R A W0 W b s) : Does A W0 W b (s.fresh x) 35 #[PT b, .int .u8 (x.toNat : Int)] := by
  obtain ⟨c2, c3, _, _, gE⟩ := hR.atCells hF 7 (cod (by omega))
  replace gE : W.cell? ⟨10, 0, none⟩ = some (errV A 7) := gE
  have HL := Lib.hid (fail_r s.line s.col 7 (cod (by omega)) hR.drew)
  have HS := Lib.hid (start_r hF x hB hN hR)
  obtain ⟨_, _, _, _, _, h⟩ := hR
  obtain ⟨_, _, _, _, _, _, _, _, _, _, c10, _⟩ := h.cells
  clear h hB
  by_cases h0 : s.count = 4096
  · have q : ((s.count : Int) == 4096) = true := by simp [h0]
    have e : s.fresh x = s.fail s.line s.col 7 := by rw [RS.fresh, if_pos h0]
    rw [e]
    clear h0 e
    go_enter Tryz.func35, Tryz.ntmps35
    go_wp2
    go_still_tail 6, (by kernel_rfl)
    change wpList _ _ _ _ _ W.drew
    go_wp2_with (go_at_call 45; (with_reducible refine HL.out.mono ?_); rintro e w1 ⟨rfl, hR1, hF1⟩)
    refine bodyPost_ret (results_none rfl _ _ _) rfl ?_
    exact ⟨rfl, hR1, (Sht.Fr.refl b _).drew.trans hF1⟩
  · have q : ((s.count : Int) == 4096) = false := by simp; omega
    have e : s.fresh x = s.start x := by rw [RS.fresh, if_neg h0]
    rw [e]
    clear h0 e
    go_enter Tryz.func35, Tryz.ntmps35
    go_wp2_with (go_at_call 69; (with_reducible refine HS.out.mono ?_); rintro e w1 ⟨rfl, hR1, hF1⟩)
    go_end0
    exact ⟨rfl, hR1, hF1⟩
theorem RS.Bd.endCell {N : Nat} (h : s.Bd N) : s.endCell.Bd (N + 1) :=
  ⟨Nat.le_succ_of_le h.line, Nat.le_succ_of_le h.col, Nat.le_succ_of_le h.all, Nat.le_succ_of_le h.ml, Nat.le_succ_of_le h.mc, Nat.zero_le _, by rw [endCell_row]; have := h.row; omega, Nat.le_succ_of_le h.rows, Nat.le_succ_of_le h.count, Nat.le_succ_of_le h.width⟩
set_option maxHeartbeats 4000000 in
set_option maxRecDepth 100000 in
theorem cut_r (hF : SF W0 A) {N : Nat} (hB : s.Bd N) (hN : N + 1 ≤ 1099511627776) (hR : R A W0 W b s) : Does A W0 W b (s.endCell.endRow s.line s.col) 89 #[PT b] := by
  have HE := Lib.hid (endCell_r hF hB (Nat.le_of_succ_le hN) hR)
  have HB := Lib.hid hB.endCell
  have HFF := Lib.hid hF
  clear hR hB hF
  go_enter Tryz.func89, Tryz.ntmps89
  go_wp2_with (first
    | (go_at_call 102; (with_reducible refine HE.out.mono ?_); rintro e w1 ⟨rfl, hR1, hF1⟩; obtain ⟨c2, c3, _⟩ := hR1.atCells HFF.out 7 (cod (by omega)); have HR := Lib.hid (endRow_r HFF.out s.endCell.line s.endCell.col HB.out hN (by rw [endCell_row]; omega) hR1); have HF := Lib.hid hF1; clear hR1 hF1)
    | (go_at_call 103; (with_reducible refine HR.out.mono ?_); rintro e w2 ⟨rfl, hR2, hF2⟩))
  go_end0
  exact ⟨rfl, hR2, HF.out.trans hF2⟩
set_option maxHeartbeats 4000000 in
set_option maxRecDepth 100000 in
theorem opened_r (hF : SF W0 A) (hR : R A W0 W b s) : Does A W0 W b (s.fail s.ml s.mc 1) 87 #[PT b] := by
  obtain ⟨_, _, c5, c6, gE⟩ := hR.atCells hF 1 (cod (by omega))
  replace gE : W.cell? ⟨2, 0, none⟩ = some (errV A 1) := gE
  have HL := Lib.hid (fail_r s.ml s.mc 1 (cod (by omega)) hR.drew)
  clear hR
  go_enter Tryz.func87, Tryz.ntmps87
  go_wp2_with fail
  go_still_tail 6, (by kernel_rfl)
  change wpList _ _ _ _ _ W.drew
  go_wp2_with (go_at_call 45; (with_reducible refine HL.out.mono ?_); rintro e w1 ⟨rfl, hR1, hF1⟩)
  go_end0
  exact ⟨rfl, hR1, (Sht.Fr.refl b _).drew.trans hF1⟩
set_option maxHeartbeats 4000000 in
set_option maxRecDepth 100000 in
theorem alone_r (hF : SF W0 A) (hR : R A W0 W b s) : Does A W0 W b (s.fail s.ml s.mc 3) 113 #[PT b] := by
  obtain ⟨_, _, c5, c6, gE⟩ := hR.atCells hF 3 (cod (by omega))
  replace gE : W.cell? ⟨1, 0, none⟩ = some (errV A 3) := gE
  have HL := Lib.hid (fail_r s.ml s.mc 3 (cod (by omega)) hR.drew)
  clear hR
  go_enter Tryz.func113, Tryz.ntmps113
  go_wp2_with fail
  go_still_tail 6, (by kernel_rfl)
  change wpList _ _ _ _ _ W.drew
  go_wp2_with (go_at_call 45; (with_reducible refine HL.out.mono ?_); rintro e w1 ⟨rfl, hR1, hF1⟩)
  go_end0
  exact ⟨rfl, hR1, (Sht.Fr.refl b _).drew.trans hF1⟩
set_option maxHeartbeats 4000000 in
set_option maxRecDepth 100000 in
theorem nothing_r (hR : R A W0 W b s) : Does A W0 W b s 36 #[PT b] := by
  go_enter Tryz.func36, Tryz.ntmps36
  go_wp2
  go_end0
  exact ⟨rfl, hR, Sht.Fr.refl b _⟩
theorem enters {f : FuncId} {fn : Func} (hf : Tryz.prog.funcs[f]? = some fn) (hn : (fn.name == "runtime.NumGoroutine") = false) (hb : fn.body.isNone = false) (args : Array Value) (w : World) : (callFunc f args).run Tryz.prog w = .ok (.enter f args) w := by
  have h1 : fn.name ≠ "runtime.NumGoroutine" := by simpa using hn
  have h2 : fn.body ≠ none := by intro e; rw [e] at hb; cases hb
  simp [callFunc, hf, h1, h2]
def Enters (f : FuncId) : Prop := ∀ (args : Array Value) (w : World), (callFunc f args).run Tryz.prog w = .ok (.enter f args) w
/-- whatever the state: the next byte -/
theorem next_r (hF : SF W0 A) (x : UInt8) {N : Nat} (hB : s.Bd N) (hN : N ≤ 1099511627776) (hne : s.md = .back → 0 < s.row.length) (hR : R A W0 W b s) :
    ∃ F, nx b s.md = .func (.func F) #[PT b] #[] ∧ Enters F ∧ Does A W0 W b (s.next x) F #[PT b, .int .u8 (x.toNat : Int)] := by
  unfold RS.next
  cases hm : s.md with
  | fresh => exact ⟨_, rfl, enters Tryz.func35 (by kernel_rfl) (by kernel_rfl), fresh_r hF x hB hN hR⟩
  | start => exact ⟨_, rfl, enters Tryz.func69 (by kernel_rfl) (by kernel_rfl), start_r hF x hB hN hR⟩
  | plain => exact ⟨_, rfl, enters Tryz.func88 (by kernel_rfl) (by kernel_rfl), plain_r hF x hB hN hR⟩
  | quoted => exact ⟨_, rfl, enters Tryz.func86 (by kernel_rfl) (by kernel_rfl), quoted_r hF x hB hN hR⟩
  | closed => exact ⟨_, rfl, enters Tryz.func98 (by kernel_rfl) (by kernel_rfl), closed_r hF x hB hN hR⟩
  | back => exact ⟨_, rfl, enters Tryz.func112 (by kernel_rfl) (by kernel_rfl), back_r hF x hB hN (hne hm) hR⟩
theorem over_r (hF : SF W0 A) {N : Nat} (hB : s.Bd N) (hN : N + 1 ≤ 1099511627776) (hR : R A W0 W b s) :
    ∃ F, ov b s.md = .func (.func F) #[PT b] #[] ∧ Enters F ∧ Does A W0 W b s.over F #[PT b] := by
  unfold RS.over
  cases hm : s.md with
  | fresh => exact ⟨_, rfl, enters Tryz.func36 (by kernel_rfl) (by kernel_rfl), nothing_r hR⟩
  | start => exact ⟨_, rfl, enters Tryz.func89 (by kernel_rfl) (by kernel_rfl), cut_r hF hB hN hR⟩
  | plain => exact ⟨_, rfl, enters Tryz.func89 (by kernel_rfl) (by kernel_rfl), cut_r hF hB hN hR⟩
  | quoted => exact ⟨_, rfl, enters Tryz.func87 (by kernel_rfl) (by kernel_rfl), opened_r hF hR⟩
  | closed => exact ⟨_, rfl, enters Tryz.func89 (by kernel_rfl) (by kernel_rfl), cut_r hF hB hN hR⟩
  | back => exact ⟨_, rfl, enters Tryz.func113 (by kernel_rfl) (by kernel_rfl), alone_r hF hR⟩
end Go.Proofs.YtappphffbnkloaaGreatDoor.Sht
