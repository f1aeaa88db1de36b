/- The reader of spans of package cal, walked by hand: what 'take' does to the reader's cells. (Written by wip/gen/gen_take.py.) -/
import Derived.Test.YtiklakkkgmilnaaDoorCalLetC
import Derived.IntWalk
set_option linter.unusedVariables false
namespace Go.Proofs.YtiklakkkgmilnaaDoor.Ext
open Go.RowKit Go.Proofs.YtiklakkkgmilnaaDoorW.PrintWords
set_option maxRecDepth 100000 in
set_option maxHeartbeats 2000000 in
theorem take_t (y mo wk d h mi s nx n : Int) (bg em : Bool) (w : World) (B g : Nat) (hB : B ≤ g) 
    (hg : w.heap[g]? = some (.cells #[.int .i64 y, .int .i64 mo, .int .i64 wk, .int .i64 d, .int .i64 h, .int .i64 mi, .int .i64 s, .int .i64 nx, .bool bg, .bool false, .bool em, .bool false, .int .i64 n, .int .i64 0] 106 (0, 0))) :
    Calls Tryd.prog 70 #[.pointer (some ⟨g, 0, none⟩), .int .u8 84] w fun e w' => e = .returned (.bool true) ∧
      w'.heap[g]? = some (.cells #[.int .i64 y, .int .i64 mo, .int .i64 wk, .int .i64 d, .int .i64 h, .int .i64 mi, .int .i64 s, .int .i64 3, .bool bg, .bool true, .bool true, .bool false, .int .i64 n, .int .i64 0] 106 (0, 0)) ∧ Below B w w' := by
  have HG := Lib.hid hg
  have hc7 : w.cell? ⟨g, 7, none⟩ = some (.int .i64 nx) := (blk_cell hg 7).trans rfl
  have hc9 : w.cell? ⟨g, 9, none⟩ = some (.bool false) := (blk_cell hg 9).trans rfl
  have hc10 : w.cell? ⟨g, 10, none⟩ = some (.bool em) := (blk_cell hg 10).trans rfl
  have hc11 : w.cell? ⟨g, 11, none⟩ = some (.bool false) := (blk_cell hg 11).trans rfl
  have hc13 : w.cell? ⟨g, 13, none⟩ = some (.int .i64 0) := (blk_cell hg 13).trans rfl
  have hf7 := blk_frozen hg 7
  have hf9 := blk_frozen hg 9
  have hf10 := blk_frozen hg 10
  clear hg
  go_enter Tryd.func70, Tryd.ntmps70
  go_wp2
  go_ret
  exact ⟨rfl, (blk_set (blk_set (blk_set HG.out _ _) _ _) _ _).trans rfl, (below_set_ge (below_set_ge (below_set_ge (Below.refl B w) hB) hB) hB)⟩
set_option maxRecDepth 100000 in
set_option maxHeartbeats 2000000 in
theorem take_d3 (y mo wk d h mi s nx n hs c : Int) (bg em : Bool) (w : World) (B g : Nat) (hB : B ≤ g) (hc : 48 ≤ c ∧ c ≤ 57) (hx : nx < 3) (h9 : hs ≠ 9) (hb : 0 ≤ hs ∧ hs ≤ 9) (hn : 0 ≤ n ∧ n ≤ 999999999)
    (hg : w.heap[g]? = some (.cells #[.int .i64 y, .int .i64 mo, .int .i64 wk, .int .i64 d, .int .i64 h, .int .i64 mi, .int .i64 s, .int .i64 nx, .bool bg, .bool false, .bool em, .bool false, .int .i64 n, .int .i64 hs] 106 (0, 0))) :
    Calls Tryd.prog 70 #[.pointer (some ⟨g, 0, none⟩), .int .u8 c] w fun e w' => e = .returned (.bool true) ∧
      w'.heap[g]? = some (.cells #[.int .i64 y, .int .i64 mo, .int .i64 wk, .int .i64 d, .int .i64 h, .int .i64 mi, .int .i64 s, .int .i64 nx, .bool bg, .bool false, .bool em, .bool false, .int .i64 (10 * n + (c - 48)), .int .i64 (hs + 1)] 106 (0, 0)) ∧ Below B w w' := by
  have HG := Lib.hid hg
  have hc7 : w.cell? ⟨g, 7, none⟩ = some (.int .i64 nx) := (blk_cell hg 7).trans rfl
  have hc9 : w.cell? ⟨g, 9, none⟩ = some (.bool false) := (blk_cell hg 9).trans rfl
  have hc11 : w.cell? ⟨g, 11, none⟩ = some (.bool false) := (blk_cell hg 11).trans rfl
  have hc12 : w.cell? ⟨g, 12, none⟩ = some (.int .i64 n) := (blk_cell hg 12).trans rfl
  have hc13 : w.cell? ⟨g, 13, none⟩ = some (.int .i64 hs) := (blk_cell hg 13).trans rfl
  have hf12 := blk_frozen hg 12
  have hf13 := blk_frozen hg 13
  clear hg
  have h90 : (hs == 9) = false := beq_eq_false_iff_ne.mpr h9
  have w1 : IntKind.u8.wrap (c - 48) = c - 48 := by
    show (c - 48) % 256 = c - 48
    omega
  obtain ⟨hc1, hc2⟩ := hc
  obtain ⟨hb1, hb2⟩ := hb
  obtain ⟨hn1, hn2⟩ := hn
  go_enter Tryd.func70, Tryd.ntmps70
  go_wp2
  go_region
  go_wp2
  go_ret
  exact ⟨rfl, (blk_set (blk_set HG.out _ _) _ _).trans rfl, ((below_set_ge (below_set_ge (Below.refl B w) hB) hB)).drew⟩
set_option maxRecDepth 100000 in
set_option maxHeartbeats 2000000 in
theorem take_d6 (y mo wk d h mi s nx n hs c : Int) (bg em : Bool) (w : World) (B g : Nat) (hB : B ≤ g) (hc : 48 ≤ c ∧ c ≤ 57) (hx : nx < 6) (h9 : hs ≠ 9) (hb : 0 ≤ hs ∧ hs ≤ 9) (hn : 0 ≤ n ∧ n ≤ 999999999)
    (hg : w.heap[g]? = some (.cells #[.int .i64 y, .int .i64 mo, .int .i64 wk, .int .i64 d, .int .i64 h, .int .i64 mi, .int .i64 s, .int .i64 nx, .bool bg, .bool true, .bool em, .bool false, .int .i64 n, .int .i64 hs] 106 (0, 0))) :
    Calls Tryd.prog 70 #[.pointer (some ⟨g, 0, none⟩), .int .u8 c] w fun e w' => e = .returned (.bool true) ∧
      w'.heap[g]? = some (.cells #[.int .i64 y, .int .i64 mo, .int .i64 wk, .int .i64 d, .int .i64 h, .int .i64 mi, .int .i64 s, .int .i64 nx, .bool bg, .bool true, .bool em, .bool false, .int .i64 (10 * n + (c - 48)), .int .i64 (hs + 1)] 106 (0, 0)) ∧ Below B w w' := by
  have HG := Lib.hid hg
  have hc7 : w.cell? ⟨g, 7, none⟩ = some (.int .i64 nx) := (blk_cell hg 7).trans rfl
  have hc9 : w.cell? ⟨g, 9, none⟩ = some (.bool true) := (blk_cell hg 9).trans rfl
  have hc11 : w.cell? ⟨g, 11, none⟩ = some (.bool false) := (blk_cell hg 11).trans rfl
  have hc12 : w.cell? ⟨g, 12, none⟩ = some (.int .i64 n) := (blk_cell hg 12).trans rfl
  have hc13 : w.cell? ⟨g, 13, none⟩ = some (.int .i64 hs) := (blk_cell hg 13).trans rfl
  have hf12 := blk_frozen hg 12
  have hf13 := blk_frozen hg 13
  clear hg
  have h90 : (hs == 9) = false := beq_eq_false_iff_ne.mpr h9
  have w1 : IntKind.u8.wrap (c - 48) = c - 48 := by
    show (c - 48) % 256 = c - 48
    omega
  obtain ⟨hc1, hc2⟩ := hc
  obtain ⟨hb1, hb2⟩ := hb
  obtain ⟨hn1, hn2⟩ := hn
  go_enter Tryd.func70, Tryd.ntmps70
  go_wp2
  go_region
  go_wp2
  go_ret
  exact ⟨rfl, (blk_set (blk_set HG.out _ _) _ _).trans rfl, ((below_set_ge (below_set_ge (Below.refl B w) hB) hB)).drew⟩
set_option maxRecDepth 100000 in
set_option maxHeartbeats 2000000 in
theorem take_de3 (y mo wk d h mi s nx n hs c : Int) (bg em : Bool) (w : World) (B g : Nat) (hB : B ≤ g) (hc : 48 ≤ c ∧ c ≤ 57)
    (hg : w.heap[g]? = some (.cells #[.int .i64 y, .int .i64 mo, .int .i64 wk, .int .i64 d, .int .i64 h, .int .i64 mi, .int .i64 s, .int .i64 nx, .bool bg, .bool false, .bool em, .bool true, .int .i64 n, .int .i64 hs] 106 (0, 0))) :
    Calls Tryd.prog 70 #[.pointer (some ⟨g, 0, none⟩), .int .u8 c] w fun e w' => e = .returned (.bool false) ∧
      w'.heap[g]? = some (.cells #[.int .i64 y, .int .i64 mo, .int .i64 wk, .int .i64 d, .int .i64 h, .int .i64 mi, .int .i64 s, .int .i64 nx, .bool bg, .bool false, .bool em, .bool true, .int .i64 n, .int .i64 hs] 106 (0, 0)) ∧ Below B w w' := by
  have HG := Lib.hid hg
  have hc7 : w.cell? ⟨g, 7, none⟩ = some (.int .i64 nx) := (blk_cell hg 7).trans rfl
  have hc9 : w.cell? ⟨g, 9, none⟩ = some (.bool false) := (blk_cell hg 9).trans rfl
  have hc11 : w.cell? ⟨g, 11, none⟩ = some (.bool true) := (blk_cell hg 11).trans rfl
  have hc13 : w.cell? ⟨g, 13, none⟩ = some (.int .i64 hs) := (blk_cell hg 13).trans rfl
  clear hg
  obtain ⟨hc1, hc2⟩ := hc
  go_enter Tryd.func70, Tryd.ntmps70
  go_wp2
  go_ret
  exact ⟨rfl, HG.out, ((Below.refl B w))⟩
set_option maxRecDepth 100000 in
set_option maxHeartbeats 2000000 in
theorem take_dx3 (y mo wk d h mi s nx n hs c : Int) (bg em : Bool) (w : World) (B g : Nat) (hB : B ≤ g) (hc : 48 ≤ c ∧ c ≤ 57) (hx : 3 ≤ nx)
    (hg : w.heap[g]? = some (.cells #[.int .i64 y, .int .i64 mo, .int .i64 wk, .int .i64 d, .int .i64 h, .int .i64 mi, .int .i64 s, .int .i64 nx, .bool bg, .bool false, .bool em, .bool false, .int .i64 n, .int .i64 hs] 106 (0, 0))) :
    Calls Tryd.prog 70 #[.pointer (some ⟨g, 0, none⟩), .int .u8 c] w fun e w' => e = .returned (.bool false) ∧
      w'.heap[g]? = some (.cells #[.int .i64 y, .int .i64 mo, .int .i64 wk, .int .i64 d, .int .i64 h, .int .i64 mi, .int .i64 s, .int .i64 nx, .bool bg, .bool false, .bool em, .bool false, .int .i64 n, .int .i64 hs] 106 (0, 0)) ∧ Below B w w' := by
  have HG := Lib.hid hg
  have hc7 : w.cell? ⟨g, 7, none⟩ = some (.int .i64 nx) := (blk_cell hg 7).trans rfl
  have hc9 : w.cell? ⟨g, 9, none⟩ = some (.bool false) := (blk_cell hg 9).trans rfl
  have hc11 : w.cell? ⟨g, 11, none⟩ = some (.bool false) := (blk_cell hg 11).trans rfl
  have hc13 : w.cell? ⟨g, 13, none⟩ = some (.int .i64 hs) := (blk_cell hg 13).trans rfl
  clear hg
  obtain ⟨hc1, hc2⟩ := hc
  have hx2 : ¬ nx < 3 := by omega
  go_enter Tryd.func70, Tryd.ntmps70
  go_wp2
  go_ret
  exact ⟨rfl, HG.out, ((Below.refl B w))⟩
set_option maxRecDepth 100000 in
set_option maxHeartbeats 2000000 in
theorem take_dn3 (y mo wk d h mi s nx n c : Int) (bg em : Bool) (w : World) (B g : Nat) (hB : B ≤ g) (hc : 48 ≤ c ∧ c ≤ 57) (hx : nx < 3)
    (hg : w.heap[g]? = some (.cells #[.int .i64 y, .int .i64 mo, .int .i64 wk, .int .i64 d, .int .i64 h, .int .i64 mi, .int .i64 s, .int .i64 nx, .bool bg, .bool false, .bool em, .bool false, .int .i64 n, .int .i64 9] 106 (0, 0))) :
    Calls Tryd.prog 70 #[.pointer (some ⟨g, 0, none⟩), .int .u8 c] w fun e w' => e = .returned (.bool false) ∧
      w'.heap[g]? = some (.cells #[.int .i64 y, .int .i64 mo, .int .i64 wk, .int .i64 d, .int .i64 h, .int .i64 mi, .int .i64 s, .int .i64 nx, .bool bg, .bool false, .bool em, .bool false, .int .i64 n, .int .i64 9] 106 (0, 0)) ∧ Below B w w' := by
  have HG := Lib.hid hg
  have hc7 : w.cell? ⟨g, 7, none⟩ = some (.int .i64 nx) := (blk_cell hg 7).trans rfl
  have hc9 : w.cell? ⟨g, 9, none⟩ = some (.bool false) := (blk_cell hg 9).trans rfl
  have hc11 : w.cell? ⟨g, 11, none⟩ = some (.bool false) := (blk_cell hg 11).trans rfl
  have hc13 : w.cell? ⟨g, 13, none⟩ = some (.int .i64 9) := (blk_cell hg 13).trans rfl
  clear hg
  obtain ⟨hc1, hc2⟩ := hc
  go_enter Tryd.func70, Tryd.ntmps70
  go_wp2
  go_ret
  exact ⟨rfl, HG.out, ((Below.refl B w))⟩
set_option maxRecDepth 100000 in
set_option maxHeartbeats 2000000 in
theorem take_de6 (y mo wk d h mi s nx n hs c : Int) (bg em : Bool) (w : World) (B g : Nat) (hB : B ≤ g) (hc : 48 ≤ c ∧ c ≤ 57)
    (hg : w.heap[g]? = some (.cells #[.int .i64 y, .int .i64 mo, .int .i64 wk, .int .i64 d, .int .i64 h, .int .i64 mi, .int .i64 s, .int .i64 nx, .bool bg, .bool true, .bool em, .bool true, .int .i64 n, .int .i64 hs] 106 (0, 0))) :
    Calls Tryd.prog 70 #[.pointer (some ⟨g, 0, none⟩), .int .u8 c] w fun e w' => e = .returned (.bool false) ∧
      w'.heap[g]? = some (.cells #[.int .i64 y, .int .i64 mo, .int .i64 wk, .int .i64 d, .int .i64 h, .int .i64 mi, .int .i64 s, .int .i64 nx, .bool bg, .bool true, .bool em, .bool true, .int .i64 n, .int .i64 hs] 106 (0, 0)) ∧ Below B w w' := by
  have HG := Lib.hid hg
  have hc7 : w.cell? ⟨g, 7, none⟩ = some (.int .i64 nx) := (blk_cell hg 7).trans rfl
  have hc9 : w.cell? ⟨g, 9, none⟩ = some (.bool true) := (blk_cell hg 9).trans rfl
  have hc11 : w.cell? ⟨g, 11, none⟩ = some (.bool true) := (blk_cell hg 11).trans rfl
  have hc13 : w.cell? ⟨g, 13, none⟩ = some (.int .i64 hs) := (blk_cell hg 13).trans rfl
  clear hg
  obtain ⟨hc1, hc2⟩ := hc
  go_enter Tryd.func70, Tryd.ntmps70
  go_wp2
  go_ret
  exact ⟨rfl, HG.out, ((Below.refl B w))⟩
set_option maxRecDepth 100000 in
set_option maxHeartbeats 2000000 in
theorem take_dx6 (y mo wk d h mi s nx n hs c : Int) (bg em : Bool) (w : World) (B g : Nat) (hB : B ≤ g) (hc : 48 ≤ c ∧ c ≤ 57) (hx : 6 ≤ nx)
    (hg : w.heap[g]? = some (.cells #[.int .i64 y, .int .i64 mo, .int .i64 wk, .int .i64 d, .int .i64 h, .int .i64 mi, .int .i64 s, .int .i64 nx, .bool bg, .bool true, .bool em, .bool false, .int .i64 n, .int .i64 hs] 106 (0, 0))) :
    Calls Tryd.prog 70 #[.pointer (some ⟨g, 0, none⟩), .int .u8 c] w fun e w' => e = .returned (.bool false) ∧
      w'.heap[g]? = some (.cells #[.int .i64 y, .int .i64 mo, .int .i64 wk, .int .i64 d, .int .i64 h, .int .i64 mi, .int .i64 s, .int .i64 nx, .bool bg, .bool true, .bool em, .bool false, .int .i64 n, .int .i64 hs] 106 (0, 0)) ∧ Below B w w' := by
  have HG := Lib.hid hg
  have hc7 : w.cell? ⟨g, 7, none⟩ = some (.int .i64 nx) := (blk_cell hg 7).trans rfl
  have hc9 : w.cell? ⟨g, 9, none⟩ = some (.bool true) := (blk_cell hg 9).trans rfl
  have hc11 : w.cell? ⟨g, 11, none⟩ = some (.bool false) := (blk_cell hg 11).trans rfl
  have hc13 : w.cell? ⟨g, 13, none⟩ = some (.int .i64 hs) := (blk_cell hg 13).trans rfl
  clear hg
  obtain ⟨hc1, hc2⟩ := hc
  have hx2 : ¬ nx < 6 := by omega
  go_enter Tryd.func70, Tryd.ntmps70
  go_wp2
  go_ret
  exact ⟨rfl, HG.out, ((Below.refl B w))⟩
set_option maxRecDepth 100000 in
set_option maxHeartbeats 2000000 in
theorem take_dn6 (y mo wk d h mi s nx n c : Int) (bg em : Bool) (w : World) (B g : Nat) (hB : B ≤ g) (hc : 48 ≤ c ∧ c ≤ 57) (hx : nx < 6)
    (hg : w.heap[g]? = some (.cells #[.int .i64 y, .int .i64 mo, .int .i64 wk, .int .i64 d, .int .i64 h, .int .i64 mi, .int .i64 s, .int .i64 nx, .bool bg, .bool true, .bool em, .bool false, .int .i64 n, .int .i64 9] 106 (0, 0))) :
    Calls Tryd.prog 70 #[.pointer (some ⟨g, 0, none⟩), .int .u8 c] w fun e w' => e = .returned (.bool false) ∧
      w'.heap[g]? = some (.cells #[.int .i64 y, .int .i64 mo, .int .i64 wk, .int .i64 d, .int .i64 h, .int .i64 mi, .int .i64 s, .int .i64 nx, .bool bg, .bool true, .bool em, .bool false, .int .i64 n, .int .i64 9] 106 (0, 0)) ∧ Below B w w' := by
  have HG := Lib.hid hg
  have hc7 : w.cell? ⟨g, 7, none⟩ = some (.int .i64 nx) := (blk_cell hg 7).trans rfl
  have hc9 : w.cell? ⟨g, 9, none⟩ = some (.bool true) := (blk_cell hg 9).trans rfl
  have hc11 : w.cell? ⟨g, 11, none⟩ = some (.bool false) := (blk_cell hg 11).trans rfl
  have hc13 : w.cell? ⟨g, 13, none⟩ = some (.int .i64 9) := (blk_cell hg 13).trans rfl
  clear hg
  obtain ⟨hc1, hc2⟩ := hc
  go_enter Tryd.func70, Tryd.ntmps70
  go_wp2
  go_ret
  exact ⟨rfl, HG.out, ((Below.refl B w))⟩
set_option maxRecDepth 100000 in
set_option maxHeartbeats 2000000 in
theorem take_ol (y mo wk d h mi s nx n c : Int) (bg ti em en : Bool) (w : World) (B g : Nat) (hB : B ≤ g) (hc : c < 48) (ht : c ≠ 84)
    (hg : w.heap[g]? = some (.cells #[.int .i64 y, .int .i64 mo, .int .i64 wk, .int .i64 d, .int .i64 h, .int .i64 mi, .int .i64 s, .int .i64 nx, .bool bg, .bool ti, .bool em, .bool en, .int .i64 n, .int .i64 0] 106 (0, 0))) :
    Calls Tryd.prog 70 #[.pointer (some ⟨g, 0, none⟩), .int .u8 c] w fun e w' => e = .returned (.bool false) ∧
      w'.heap[g]? = some (.cells #[.int .i64 y, .int .i64 mo, .int .i64 wk, .int .i64 d, .int .i64 h, .int .i64 mi, .int .i64 s, .int .i64 nx, .bool bg, .bool ti, .bool em, .bool en, .int .i64 n, .int .i64 0] 106 (0, 0)) ∧ Below B w w' := by
  have HG := Lib.hid hg
  have hc9 : w.cell? ⟨g, 9, none⟩ = some (.bool ti) := (blk_cell hg 9).trans rfl
  have hc11 : w.cell? ⟨g, 11, none⟩ = some (.bool en) := (blk_cell hg 11).trans rfl
  have hc13 : w.cell? ⟨g, 13, none⟩ = some (.int .i64 0) := (blk_cell hg 13).trans rfl
  clear hg
  have hc1 : ¬ 48 ≤ c := by omega
  have hc2 : ¬ c ≥ 48 := by omega
  have h84 : (c == 84) = false := beq_eq_false_iff_ne.mpr ht
  go_enter Tryd.func70, Tryd.ntmps70
  go_wp2
  go_ret
  exact ⟨rfl, HG.out, ((Below.refl B w))⟩
set_option maxRecDepth 100000 in
set_option maxHeartbeats 2000000 in
theorem take_og (y mo wk d h mi s nx n c : Int) (bg ti em en : Bool) (w : World) (B g : Nat) (hB : B ≤ g) (hc : 57 < c) (ht : c ≠ 84)
    (hg : w.heap[g]? = some (.cells #[.int .i64 y, .int .i64 mo, .int .i64 wk, .int .i64 d, .int .i64 h, .int .i64 mi, .int .i64 s, .int .i64 nx, .bool bg, .bool ti, .bool em, .bool en, .int .i64 n, .int .i64 0] 106 (0, 0))) :
    Calls Tryd.prog 70 #[.pointer (some ⟨g, 0, none⟩), .int .u8 c] w fun e w' => e = .returned (.bool false) ∧
      w'.heap[g]? = some (.cells #[.int .i64 y, .int .i64 mo, .int .i64 wk, .int .i64 d, .int .i64 h, .int .i64 mi, .int .i64 s, .int .i64 nx, .bool bg, .bool ti, .bool em, .bool en, .int .i64 n, .int .i64 0] 106 (0, 0)) ∧ Below B w w' := by
  have HG := Lib.hid hg
  have hc9 : w.cell? ⟨g, 9, none⟩ = some (.bool ti) := (blk_cell hg 9).trans rfl
  have hc11 : w.cell? ⟨g, 11, none⟩ = some (.bool en) := (blk_cell hg 11).trans rfl
  have hc13 : w.cell? ⟨g, 13, none⟩ = some (.int .i64 0) := (blk_cell hg 13).trans rfl
  clear hg
  have hc1 : 48 ≤ c := by omega
  have hc2 : ¬ c ≤ 57 := by omega
  have h84 : (c == 84) = false := beq_eq_false_iff_ne.mpr ht
  go_enter Tryd.func70, Tryd.ntmps70
  go_wp2
  go_ret
  exact ⟨rfl, HG.out, ((Below.refl B w))⟩
set_option maxRecDepth 100000 in
set_option maxHeartbeats 2000000 in
theorem take_tt (y mo wk d h mi s nx n : Int) (bg em en : Bool) (w : World) (B g : Nat) (hB : B ≤ g) 
    (hg : w.heap[g]? = some (.cells #[.int .i64 y, .int .i64 mo, .int .i64 wk, .int .i64 d, .int .i64 h, .int .i64 mi, .int .i64 s, .int .i64 nx, .bool bg, .bool true, .bool em, .bool en, .int .i64 n, .int .i64 0] 106 (0, 0))) :
    Calls Tryd.prog 70 #[.pointer (some ⟨g, 0, none⟩), .int .u8 84] w fun e w' => e = .returned (.bool false) ∧
      w'.heap[g]? = some (.cells #[.int .i64 y, .int .i64 mo, .int .i64 wk, .int .i64 d, .int .i64 h, .int .i64 mi, .int .i64 s, .int .i64 nx, .bool bg, .bool true, .bool em, .bool en, .int .i64 n, .int .i64 0] 106 (0, 0)) ∧ Below B w w' := by
  have HG := Lib.hid hg
  have hc9 : w.cell? ⟨g, 9, none⟩ = some (.bool true) := (blk_cell hg 9).trans rfl
  have hc11 : w.cell? ⟨g, 11, none⟩ = some (.bool en) := (blk_cell hg 11).trans rfl
  have hc13 : w.cell? ⟨g, 13, none⟩ = some (.int .i64 0) := (blk_cell hg 13).trans rfl
  clear hg
  go_enter Tryd.func70, Tryd.ntmps70
  go_wp2
  go_ret
  exact ⟨rfl, HG.out, ((Below.refl B w))⟩
set_option maxRecDepth 100000 in
set_option maxHeartbeats 2000000 in
theorem take_te (y mo wk d h mi s nx n : Int) (bg em : Bool) (w : World) (B g : Nat) (hB : B ≤ g) 
    (hg : w.heap[g]? = some (.cells #[.int .i64 y, .int .i64 mo, .int .i64 wk, .int .i64 d, .int .i64 h, .int .i64 mi, .int .i64 s, .int .i64 nx, .bool bg, .bool false, .bool em, .bool true, .int .i64 n, .int .i64 0] 106 (0, 0))) :
    Calls Tryd.prog 70 #[.pointer (some ⟨g, 0, none⟩), .int .u8 84] w fun e w' => e = .returned (.bool false) ∧
      w'.heap[g]? = some (.cells #[.int .i64 y, .int .i64 mo, .int .i64 wk, .int .i64 d, .int .i64 h, .int .i64 mi, .int .i64 s, .int .i64 nx, .bool bg, .bool false, .bool em, .bool true, .int .i64 n, .int .i64 0] 106 (0, 0)) ∧ Below B w w' := by
  have HG := Lib.hid hg
  have hc9 : w.cell? ⟨g, 9, none⟩ = some (.bool false) := (blk_cell hg 9).trans rfl
  have hc11 : w.cell? ⟨g, 11, none⟩ = some (.bool true) := (blk_cell hg 11).trans rfl
  have hc13 : w.cell? ⟨g, 13, none⟩ = some (.int .i64 0) := (blk_cell hg 13).trans rfl
  clear hg
  go_enter Tryd.func70, Tryd.ntmps70
  go_wp2
  go_ret
  exact ⟨rfl, HG.out, ((Below.refl B w))⟩
set_option maxRecDepth 100000 in
set_option maxHeartbeats 2000000 in
theorem take_cl (r : RS) (c : Int) (w : World) (B g : Nat) (hB : B ≤ g) (hok : r.ok) (hc : c < 48) (h0 : 0 < r.hs) (hg : w.heap[g]? = some (.cells r.cells 106 (0, 0))) :
    Calls Tryd.prog 70 #[.pointer (some ⟨g, 0, none⟩), .int .u8 c] w fun e w' => e = .returned (.bool (letF r c).1) ∧
      w'.heap[g]? = some (.cells (letF r c).2.cells 106 (0, 0)) ∧ Below B w w' := by
  have HG := Lib.hid hg
  have HO := Lib.hid hok
  have hc13 : w.cell? ⟨g, 13, none⟩ = some (.int .i64 r.hs) := (blk_cell hg 13).trans rfl
  clear hg hok
  have hc1 : ¬ 48 ≤ c := by omega
  have hc2 : ¬ c ≥ 48 := by omega
  have h00 : r.hs > 0 := h0
  go_enter Tryd.func70, Tryd.ntmps70
  go_wp2_with (go_at_call 104; refine (letter_calls r c _ B g hB HO.out HG.out).mono ?_; rintro e w' ⟨rfl, hw1, hw2⟩)
  go_ret
  exact ⟨rfl, hw1, hw2⟩
set_option maxRecDepth 100000 in
set_option maxHeartbeats 2000000 in
theorem take_cg (r : RS) (c : Int) (w : World) (B g : Nat) (hB : B ≤ g) (hok : r.ok) (hc : 57 < c) (h0 : 0 < r.hs) (hg : w.heap[g]? = some (.cells r.cells 106 (0, 0))) :
    Calls Tryd.prog 70 #[.pointer (some ⟨g, 0, none⟩), .int .u8 c] w fun e w' => e = .returned (.bool (letF r c).1) ∧
      w'.heap[g]? = some (.cells (letF r c).2.cells 106 (0, 0)) ∧ Below B w w' := by
  have HG := Lib.hid hg
  have HO := Lib.hid hok
  have hc13 : w.cell? ⟨g, 13, none⟩ = some (.int .i64 r.hs) := (blk_cell hg 13).trans rfl
  clear hg hok
  have hc1 : 48 ≤ c := by omega
  have hc2 : ¬ c ≤ 57 := by omega
  have h00 : r.hs > 0 := h0
  go_enter Tryd.func70, Tryd.ntmps70
  go_wp2_with (go_at_call 104; refine (letter_calls r c _ B g hB HO.out HG.out).mono ?_; rintro e w' ⟨rfl, hw1, hw2⟩)
  go_ret
  exact ⟨rfl, hw1, hw2⟩
end Go.Proofs.YtiklakkkgmilnaaDoor.Ext
