/- The law's sameTexts, sameRows at rows that are alike. -/
import Derived.Test.YtappphffbnkloaaGreatDoorShtPb
import Derived.Deep.QuietTactic
import Derived.BigQuiet
set_option linter.unusedVariables false
set_option linter.unusedSimpArgs false
namespace Go.Proofs.YtappphffbnkloaaGreatDoor.Sht
open Go Go.RowKit
attribute [local go_sem ↓] Go.wp_at_zero Go.wp_at_succ
set_option maxHeartbeats 4000000 in
set_option maxRecDepth 100000 in
theorem texts_r (r : List (List UInt8)) (v1 v2 : Value) (w : World) (h1 : RowIn w v1 r) (h2 : RowIn w v2 r) : Calls Tryz.prog 42 #[v1, v2] w fun e w' => e = .returned (.bool true) ∧ Below w.heap.size w w' := by
  obtain ⟨x, cap, rfl, hlen, hx⟩ := h1
  obtain ⟨x', cap', rfl, _, hx'⟩ := h2
  have HX := Lib.hid hx
  have HX' := Lib.hid hx'
  clear hx hx'
  go_enter Tryz.func42, Tryz.ntmps42
  go_wp2
  go_loopw [5] (fun i wr => ∃ k : Nat, k ≤ r.length ∧ i = .int .i64 (k : Int) ∧ Hid (Below w.heap.size w wr)) (fun i _ => r.length - (intOf i).toNat)
  case atStart => exact ⟨0, Nat.zero_le _, rfl, Lib.hid (Below.refl _ _)⟩
  case round =>
    obtain ⟨k, hk, rfl, HB⟩ := hrel
    by_cases hlt : k < r.length
    · obtain ⟨a, rfl, hc⟩ := HX.out k hlt
      obtain ⟨b, rfl, hd⟩ := HX'.out k hlt
      obtain ⟨s, hs⟩ : ∃ s, s = (⟨r[k].toArray⟩ : ByteArray) := ⟨_, rfl⟩
      have c1 : wr.cell? (a.add k) = some (.string s) := by rw [hs]; exact (HB.out.cell (World.block_lt_of_cell? _ _ hc)).trans hc
      have c2 : wr.cell? (b.add k) = some (.string s) := by rw [hs]; exact (HB.out.cell (World.block_lt_of_cell? _ _ hd)).trans hd
      clear hc hd hs
      go_wp2
      go_quiet (fail)
      go_wp2
      go_roundw
      case rel => exact ⟨k + 1, by omega, by go_num, Lib.hid (belowN HB.out _)⟩
      case measure => simp [intOf]; omega
    · obtain rfl : k = r.length := by omega
      go_wp2
      go_ret
      exact ⟨rfl, HB.out⟩
set_option maxHeartbeats 4000000 in
set_option maxRecDepth 100000 in
theorem same_r2 (rs : Rows) (v1 v2 : Value) (w : World) (h1 : RowsIn w v1 rs) (h2 : RowsIn w v2 rs) : Calls Tryz.prog 12 #[v1, v2] w fun e w' => e = .returned (.bool true) ∧ Below w.heap.size w w' := by
  obtain ⟨x, cap, rfl, hlen, hx⟩ := h1
  obtain ⟨x', cap', rfl, _, hx'⟩ := h2
  have HX := Lib.hid hx
  have HX' := Lib.hid hx'
  clear hx hx'
  go_enter Tryz.func12, Tryz.ntmps12
  go_wp2
  go_loopw [5] (fun i wr => ∃ k : Nat, k ≤ rs.length ∧ i = .int .i64 (k : Int) ∧ Hid (Below w.heap.size w wr)) (fun i _ => rs.length - (intOf i).toNat)
  case atStart => exact ⟨0, Nat.zero_le _, rfl, Lib.hid (Below.refl _ _)⟩
  case round =>
    obtain ⟨k, hk, rfl, HB⟩ := hrel
    by_cases hlt : k < rs.length
    · obtain ⟨a, u, rfl, hc, hu⟩ := HX.out k hlt
      obtain ⟨b, u', rfl, hd, hu'⟩ := HX'.out k hlt
      have c1 : wr.cell? (a.add k) = some u := (HB.out.cell (World.block_lt_of_cell? _ _ hc)).trans hc
      have c2 : wr.cell? (b.add k) = some u' := (HB.out.cell (World.block_lt_of_cell? _ _ hd)).trans hd
      have HT := Lib.hid (texts_r _ _ _ wr.drew (hu.below HB.out.drew) (hu'.below HB.out.drew))
      clear hc hd
      obtain ⟨y, capy, rfl, _, _⟩ := hu
      obtain ⟨y', capy', rfl, _, _⟩ := hu'
      go_wp2
      go_region_with (go_at_call 42; (with_reducible refine HT.out.mono ?_); rintro e w2 ⟨rfl, b2⟩; have B2 := Lib.hid (HB.out.drew.trans (b2.mono HB.out.size)); clear b2)
      all_goals
        go_wp2
        go_roundw
        case rel => exact ⟨k + 1, by omega, by go_num, B2⟩
        case measure => simp [intOf]; omega
    · obtain rfl : k = rs.length := by omega
      go_wp2
      go_ret
      exact ⟨rfl, HB.out⟩
end Go.Proofs.YtappphffbnkloaaGreatDoor.Sht
