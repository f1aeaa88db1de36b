/- The text of a sheet's fault. -/
import Derived.Test.YtappphffbnkloaaGreatDoorShtX
import Derived.Deep.RegionHeld3
import Derived.Deep.RegionWith
import Derived.Deep.DrawnRows
set_option linter.unusedVariables false
set_option linter.unusedSimpArgs false
namespace Go.Proofs.YtappphffbnkloaaGreatDoor.Sht
open Go Go.RowKit
attribute [local go_sem ↓] Go.wp_at_zero Go.wp_at_succ
/-- strconv.Itoa, as long as nothing below a world turns: a text for each number -/
structure IT (W : World) (T : Nat → ByteArray) (N : Nat := 4611686018427387904) : Prop where
  run : ∀ w', Below W.heap.size W w' → ∀ n : Nat, n ≤ N → Calls Tryz.prog 68 #[.int .i64 (n : Int)] w' fun e w'' => e = .returned (.string (T n)) ∧ Below w'.heap.size w' w''
  size : ∀ n : Nat, n ≤ N → (T n).size ≤ 100
theorem IT.below {W W' : World} {T : Nat → ByteArray} {N : Nat} (h : IT W T N) (k : Below W.heap.size W W') : IT W' T N := ⟨fun w' hb n hn => h.run w' (k.trans (hb.mono k.size)) n hn, h.size⟩
theorem methodError (v : Value) (w : World) : (Go.method 345 215 v "Error").run Tryz.prog w = .ok (176, v) w := by kernel_rfl
abbrev ftext (T : Nat → ByteArray) (x y : Nat) (s : ByteArray) : ByteArray := ⟨#[108, 105, 110, 101, 32]⟩ ++ T x ++ ⟨#[32, 99, 111, 108, 117, 109, 110, 32]⟩ ++ T y ++ ⟨#[58, 32]⟩ ++ s
set_option maxHeartbeats 4000000 in
set_option maxRecDepth 100000 in
theorem fault_error (T : Nat → ByteArray) (g x y : Nat) (a : Addr) (s : ByteArray) (w : World) {N : Nat} (hI : IT w T N) (hx : x ≤ N) (hy : y ≤ N) (hg : w.heap[g]? = some (.cells #[I x, I y, .iface 215 (.pointer (some a))] 70 (0, 0))) (hs : w.cell? a = some (.string s)) (hz : s.size < 1000) :
    Calls Tryz.prog 28 #[PT g] w fun e w' => e = .returned (.string (ftext T x y s)) ∧ Below w.heap.size w w' := by
  have c0 : w.cell? ⟨g, 0, none⟩ = some (I x) := (bcell hg 0).trans rfl
  have c1 : w.cell? ⟨g, 1, none⟩ = some (I y) := (bcell hg 1).trans rfl
  have hm := methodError
  have zx := hI.size x hx
  have zy := hI.size y hy
  have HG := Lib.hid hg
  have HS := Lib.hid hs
  have HX := Lib.hid (fun w' hb => hI.run w' hb x hx)
  have HY := Lib.hid (fun w' hb => hI.run w' hb y hy)
  have gl := blt hg
  have q1 : ¬ 9223372036854775807 < 5 + (T x).size := by omega
  have q2 : ¬ 9223372036854775807 < 5 + (T x).size + 8 := by omega
  have q3 : ¬ 9223372036854775807 < 5 + (T x).size + 8 + (T y).size := by omega
  have q4 : ¬ 9223372036854775807 < 5 + (T x).size + 8 + (T y).size + 2 := by omega
  have q5 : ¬ 9223372036854775807 < 5 + (T x).size + 8 + (T y).size + 2 + s.size := by omega
  clear hg hs hI
  go_enter Tryz.func28, Tryz.ntmps28
  go_wp2
  go_region_held3 (fun w' => w'.cell? ⟨g, 0, none⟩ = some (I x) ∧ w'.cell? ⟨g, 1, none⟩ = some (I y))
    (first | go_keep | (exact ⟨(hb1.cell (p := ⟨g, 0, none⟩) gl).trans c0, (hb1.cell (p := ⟨g, 1, none⟩) gl).trans c1⟩) | (exact ⟨(hb2.cell (p := ⟨g, 0, none⟩) gl).trans c0, (hb2.cell (p := ⟨g, 1, none⟩) gl).trans c1⟩))
    (first
      | (go_at_call 68; (with_reducible refine (HX.out _ ((Below.refl _ _).drew)).mono ?_); rintro e w1 ⟨rfl, hb1'⟩; have hb1 : Below w.heap.size w w1 := (Below.refl _ w).drew.trans hb1')
      | (go_at_call 68; (with_reducible refine (HY.out _ hb1).mono ?_); rintro e w2 ⟨rfl, hb2'⟩; have hb2 : Below w.heap.size w w2 := hb1.trans (hb2'.mono hb1.size)))
  all_goals
    have HB := Lib.hid hb2
    have d2 : w2.cell? ⟨g, 2, none⟩ = some (.iface 215 (.pointer (some a))) := (HB.out.cell (p := ⟨g, 2, none⟩) gl).trans ((bcell HG.out 2).trans rfl)
    have HE := Lib.hid (es_error a s w2 ((HB.out.cell (World.block_lt_of_cell? w _ HS.out)).trans HS.out))
    clear hb1 hb2 hb1' hb2' c0 c1
    go_wp2_with (go_at_call 176; (with_reducible refine HE.out.mono ?_); rintro e w3 ⟨rfl, rfl⟩)
    go_ret
    exact ⟨rfl, HB.out⟩
end Go.Proofs.YtappphffbnkloaaGreatDoor.Sht
