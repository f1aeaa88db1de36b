/- The reader of spans of package cal, walked by hand: what 'letter' does to the reader's cells. UNFINISHED. -/
import Derived.Test.YtiklakkkgmilnaaDoorVWords
import Derived.Test.YtiklakkkgmilnaaDoorLite
import Derived.WalkKit
import Derived.WalkSmall
import Derived.Deep.QuietTactic
import Derived.BigQuiet
import Derived.Deep.RegionWith
import Derived.Lib.Hide
import Derived.IntWalk
namespace Go.Proofs.YtiklakkkgmilnaaDoor.Ext
open Go.RowKit Go.Proofs.YtiklakkkgmilnaaDoorW.PrintWords

theorem below_set_ge {w W : World} {B g j : Nat} {v : Value} (h : Below B w W) (hg : B ≤ g) : Below B w (W.setCell ⟨g, j, none⟩ v) := h.setCell hg _
/-- the reader of a span -/
structure RS where
  y : Int
  mo : Int
  wk : Int
  d : Int
  h : Int
  mi : Int
  s : Int
  nx : Int
  bg : Bool
  ti : Bool
  em : Bool
  en : Bool
  n : Int
  hs : Int
def RS.cells (r : RS) : Array Value := #[.int .i64 r.y, .int .i64 r.mo, .int .i64 r.wk, .int .i64 r.d, .int .i64 r.h, .int .i64 r.mi, .int .i64 r.s, .int .i64 r.nx, .bool r.bg, .bool r.ti, .bool r.em, .bool r.en, .int .i64 r.n, .int .i64 r.hs]
set_option maxRecDepth 100000 in
set_option maxHeartbeats 1000000 in
theorem letter_w (y mo wk d h mi s nx n hs : Int) (bg ti em en : Bool) (w : World) (B g : Nat) (hB : B ≤ g)
    (hg : w.heap[g]? = some (.cells #[.int .i64 y, .int .i64 mo, .int .i64 wk, .int .i64 d, .int .i64 h, .int .i64 mi, .int .i64 s, .int .i64 nx, .bool bg, .bool ti, .bool em, .bool en, .int .i64 n, .int .i64 hs] 106 (0, 0))) (hbt : bg = false ∧ ti = false) :
    Calls Tryd.prog 104 #[.pointer (some ⟨g, 0, none⟩), .int .u8 87] w fun e w' => e = .returned (.bool true) ∧
      w'.heap[g]? = some (.cells #[.int .i64 y, .int .i64 mo, .int .i64 n, .int .i64 d, .int .i64 h, .int .i64 mi, .int .i64 s, .int .i64 nx, .bool true, .bool ti, .bool em, .bool true, .int .i64 0, .int .i64 0] 106 (0, 0)) ∧ Below B w w' := by
  obtain ⟨rfl, rfl⟩ := hbt
  have HG := Lib.hid hg
  have hc2 : w.cell? ⟨g, 2, none⟩ = some (.int .i64 wk) := (blk_cell hg 2).trans rfl
  have hc8 : w.cell? ⟨g, 8, none⟩ = some (.bool false) := (blk_cell hg 8).trans rfl
  have hc9 : w.cell? ⟨g, 9, none⟩ = some (.bool false) := (blk_cell hg 9).trans rfl
  have hc11 : w.cell? ⟨g, 11, none⟩ = some (.bool en) := (blk_cell hg 11).trans rfl
  have hc12 : w.cell? ⟨g, 12, none⟩ = some (.int .i64 n) := (blk_cell hg 12).trans rfl
  have hc13 : w.cell? ⟨g, 13, none⟩ = some (.int .i64 hs) := (blk_cell hg 13).trans rfl
  have hf2 := blk_frozen hg 2
  have hf8 := blk_frozen hg 8
  have hf11 := blk_frozen hg 11
  have hf12 := blk_frozen hg 12
  have hf13 := blk_frozen hg 13
  clear hg
  go_enter Tryd.func104, Tryd.ntmps104
  go_wp2
  go_ret
  exact ⟨rfl, (blk_set (blk_set (blk_set (blk_set (blk_set HG.out _ _) _ _) _ _) _ _) _ _).trans rfl, below_set_ge (below_set_ge (below_set_ge (below_set_ge (below_set_ge (Below.refl B w) hB) hB) hB) hB) hB⟩
def L (k : Nat) : Int := if k = 0 then 89 else if k = 1 then 77 else if k = 2 then 68 else if k = 3 then 72 else if k = 4 then 77 else 83
def fnd (c : Int) : Nat → Nat → Option Nat
  | 0, _ => none
  | m + 1, k => if L k = c then some k else fnd c m (k + 1)
theorem lidx (k : Nat) (hk : k < 6) (W : World) : (Instr.index 9 (.string (⟨#[89, 77, 68, 72, 77, 83]⟩ : ByteArray)) (.int .i64 k)).run Tryd.prog W = .ok (.int .u8 (L k)) W := by
  match k, hk with
  | 0, _ => show _ = _; kernel_rfl
  | 1, _ => show _ = _; kernel_rfl
  | 2, _ => show _ = _; kernel_rfl
  | 3, _ => show _ = _; kernel_rfl
  | 4, _ => show _ = _; kernel_rfl
  | 5, _ => show _ = _; kernel_rfl
/-- the six parts' places -/
abbrev PZ (g : Nat) : Obj := .cells #[.pointer (some ⟨g, 0, none⟩), .pointer (some ⟨g, 1, none⟩), .pointer (some ⟨g, 3, none⟩), .pointer (some ⟨g, 4, none⟩), .pointer (some ⟨g, 5, none⟩), .pointer (some ⟨g, 6, none⟩)] 136 (0, 0)
theorem below_drew1' {B : Nat} {w W : World} (h : Below B w W) : Below B w W.drew := h.drew
set_option maxRecDepth 100000 in
set_option maxHeartbeats 1000000 in
theorem letter_wb (y mo wk d h mi s nx n hs : Int) (ti em en : Bool) (w : World) (B g : Nat)
    (hg : w.heap[g]? = some (.cells #[.int .i64 y, .int .i64 mo, .int .i64 wk, .int .i64 d, .int .i64 h, .int .i64 mi, .int .i64 s, .int .i64 nx, .bool true, .bool ti, .bool em, .bool en, .int .i64 n, .int .i64 hs] 106 (0, 0))) :
    Calls Tryd.prog 104 #[.pointer (some ⟨g, 0, none⟩), .int .u8 87] w fun e w' => e = .returned (.bool false) ∧
      w'.heap[g]? = some (.cells #[.int .i64 y, .int .i64 mo, .int .i64 wk, .int .i64 d, .int .i64 h, .int .i64 mi, .int .i64 s, .int .i64 nx, .bool true, .bool ti, .bool em, .bool en, .int .i64 n, .int .i64 hs] 106 (0, 0)) ∧ Below B w w' := by
  have HG := Lib.hid hg
  have hc8 : w.cell? ⟨g, 8, none⟩ = some (.bool true) := (blk_cell hg 8).trans rfl
  have hc9 : w.cell? ⟨g, 9, none⟩ = some (.bool ti) := (blk_cell hg 9).trans rfl
  clear hg
  go_enter Tryd.func104, Tryd.ntmps104
  go_wp2
  go_ret
  exact ⟨rfl, HG.out, Below.refl _ _⟩
set_option maxRecDepth 100000 in
set_option maxHeartbeats 1000000 in
theorem letter_wt (y mo wk d h mi s nx n hs : Int) (em en : Bool) (w : World) (B g : Nat)
    (hg : w.heap[g]? = some (.cells #[.int .i64 y, .int .i64 mo, .int .i64 wk, .int .i64 d, .int .i64 h, .int .i64 mi, .int .i64 s, .int .i64 nx, .bool false, .bool true, .bool em, .bool en, .int .i64 n, .int .i64 hs] 106 (0, 0))) :
    Calls Tryd.prog 104 #[.pointer (some ⟨g, 0, none⟩), .int .u8 87] w fun e w' => e = .returned (.bool false) ∧
      w'.heap[g]? = some (.cells #[.int .i64 y, .int .i64 mo, .int .i64 wk, .int .i64 d, .int .i64 h, .int .i64 mi, .int .i64 s, .int .i64 nx, .bool false, .bool true, .bool em, .bool en, .int .i64 n, .int .i64 hs] 106 (0, 0)) ∧ Below B w w' := by
  have HG := Lib.hid hg
  have hc8 : w.cell? ⟨g, 8, none⟩ = some (.bool false) := (blk_cell hg 8).trans rfl
  have hc9 : w.cell? ⟨g, 9, none⟩ = some (.bool true) := (blk_cell hg 9).trans rfl
  clear hg
  go_enter Tryd.func104, Tryd.ntmps104
  go_wp2
  go_ret
  exact ⟨rfl, HG.out, Below.refl _ _⟩
set_option maxRecDepth 100000 in
set_option maxHeartbeats 4000000 in
theorem letter_n0 (y mo wk d h mi s nx n hs c : Int) (k0 : Nat) (bg em en : Bool) (w : World) (B g : Nat) (hc : c ≠ 87) (hk0 : 0 ≤ k0 ∧ k0 ≤ 3) (hm : (if 0 < nx then nx else 0) = (k0 : Int))
    (hg : w.heap[g]? = some (.cells #[.int .i64 y, .int .i64 mo, .int .i64 wk, .int .i64 d, .int .i64 h, .int .i64 mi, .int .i64 s, .int .i64 nx, .bool bg, .bool false, .bool em, .bool en, .int .i64 n, .int .i64 hs] 106 (0, 0))) (hnone : fnd c (3 - k0) k0 = none) :
    Calls Tryd.prog 104 #[.pointer (some ⟨g, 0, none⟩), .int .u8 c] w fun e w' => e = .returned (.bool false) ∧
      w'.heap[g]? = some (.cells #[.int .i64 y, .int .i64 mo, .int .i64 wk, .int .i64 d, .int .i64 h, .int .i64 mi, .int .i64 s, .int .i64 nx, .bool bg, .bool false, .bool em, .bool en, .int .i64 n, .int .i64 hs] 106 (0, 0)) ∧ Below B w w' := by
  have HG := Lib.hid hg
  have HN := Lib.hid hnone
  have h87 : (c == 87) = false := beq_eq_false_iff_ne.mpr hc
  have hc7 : w.cell? ⟨g, 7, none⟩ = some (.int .i64 nx) := (blk_cell hg 7).trans rfl
  have hc9 : w.cell? ⟨g, 9, none⟩ = some (.bool false) := (blk_cell hg 9).trans rfl
  clear hg hnone hc
  go_enter Tryd.func104, Tryd.ntmps104
  go_wp2
  go_loop [7] (fun i => ∃ k : Nat, 0 ≤ k ∧ k ≤ 3 ∧ i = .int .i64 k ∧ Hid (fnd c (3 - k) k = none)) (fun i => 6 - (intOf i).toNat)
  case atStart => exact ⟨k0, hk0.1, hk0.2, rfl, HN⟩
  case round =>
    obtain ⟨k, hk1, hk, rfl, HK⟩ := hrel
    by_cases hlt : k < 3
    · have hi := lidx k (by omega)
      by_cases hne : L k = c
      · exfalso; have := HK.out; rw [show 3 - k = (3 - k - 1) + 1 by omega] at this; simp [fnd, hne] at this
      · have HS : Hid (fnd c (3 - (k + 1)) (k + 1) = none) := by
          have := HK.out; rw [show 3 - k = (3 - (k + 1)) + 1 by omega] at this; simp only [fnd, if_neg hne] at this; exact this
        generalize hq : L k = l at *
        have HQ := Lib.hid hq
        clear hq
        have hb : (l == c) = false := beq_eq_false_iff_ne.mpr hne
        have hb2 : (l != c) = true := bne_iff_ne.mpr hne
        clear hne
        go_wp2
        exact ⟨⟨k + 1, by omega, by omega, by go_num, HS⟩, by simp [intOf]; omega⟩
    · obtain rfl : k = 3 := by omega
      go_wp2
      go_ret
      exact ⟨rfl, HG.out, Below.refl _ _⟩
set_option maxRecDepth 100000 in
set_option maxHeartbeats 4000000 in
theorem letter_n3 (y mo wk d h mi s nx n hs c : Int) (k0 : Nat) (bg em en : Bool) (w : World) (B g : Nat) (hc : c ≠ 87) (hk0 : 3 ≤ k0 ∧ k0 ≤ 6) (hm : (if 3 < nx then nx else 3) = (k0 : Int))
    (hg : w.heap[g]? = some (.cells #[.int .i64 y, .int .i64 mo, .int .i64 wk, .int .i64 d, .int .i64 h, .int .i64 mi, .int .i64 s, .int .i64 nx, .bool bg, .bool true, .bool em, .bool en, .int .i64 n, .int .i64 hs] 106 (0, 0))) (hnone : fnd c (6 - k0) k0 = none) :
    Calls Tryd.prog 104 #[.pointer (some ⟨g, 0, none⟩), .int .u8 c] w fun e w' => e = .returned (.bool false) ∧
      w'.heap[g]? = some (.cells #[.int .i64 y, .int .i64 mo, .int .i64 wk, .int .i64 d, .int .i64 h, .int .i64 mi, .int .i64 s, .int .i64 nx, .bool bg, .bool true, .bool em, .bool en, .int .i64 n, .int .i64 hs] 106 (0, 0)) ∧ Below B w w' := by
  have HG := Lib.hid hg
  have HN := Lib.hid hnone
  have h87 : (c == 87) = false := beq_eq_false_iff_ne.mpr hc
  have hc7 : w.cell? ⟨g, 7, none⟩ = some (.int .i64 nx) := (blk_cell hg 7).trans rfl
  have hc9 : w.cell? ⟨g, 9, none⟩ = some (.bool true) := (blk_cell hg 9).trans rfl
  clear hg hnone hc
  go_enter Tryd.func104, Tryd.ntmps104
  go_wp2
  go_loop [7] (fun i => ∃ k : Nat, 3 ≤ k ∧ k ≤ 6 ∧ i = .int .i64 k ∧ Hid (fnd c (6 - k) k = none)) (fun i => 6 - (intOf i).toNat)
  case atStart => exact ⟨k0, hk0.1, hk0.2, rfl, HN⟩
  case round =>
    obtain ⟨k, hk1, hk, rfl, HK⟩ := hrel
    by_cases hlt : k < 6
    · have hi := lidx k (by omega)
      by_cases hne : L k = c
      · exfalso; have := HK.out; rw [show 6 - k = (6 - k - 1) + 1 by omega] at this; simp [fnd, hne] at this
      · have HS : Hid (fnd c (6 - (k + 1)) (k + 1) = none) := by
          have := HK.out; rw [show 6 - k = (6 - (k + 1)) + 1 by omega] at this; simp only [fnd, if_neg hne] at this; exact this
        generalize hq : L k = l at *
        have HQ := Lib.hid hq
        clear hq
        have hb : (l == c) = false := beq_eq_false_iff_ne.mpr hne
        have hb2 : (l != c) = true := bne_iff_ne.mpr hne
        clear hne
        go_wp2
        exact ⟨⟨k + 1, by omega, by omega, by go_num, HS⟩, by simp [intOf]; omega⟩
    · obtain rfl : k = 6 := by omega
      go_wp2
      go_ret
      exact ⟨rfl, HG.out, Below.refl _ _⟩
set_option maxRecDepth 100000 in
set_option maxHeartbeats 4000000 in
theorem letter_y0 (y mo wk d h mi s nx n hs c : Int) (k0 kf : Nat) (bg em en : Bool) (w : World) (B g : Nat) (hB : B ≤ g) (hw : B ≤ w.heap.size) (hc : c ≠ 87) (hk0 : 0 ≤ k0 ∧ k0 ≤ 3) (hm : (if 0 < nx then nx else 0) = (k0 : Int))
    (hg : w.heap[g]? = some (.cells #[.int .i64 y, .int .i64 mo, .int .i64 wk, .int .i64 d, .int .i64 h, .int .i64 mi, .int .i64 s, .int .i64 nx, .bool bg, .bool false, .bool em, .bool en, .int .i64 n, .int .i64 hs] 106 (0, 0))) (hnone : fnd c (3 - k0) k0 = some kf) :
    Calls Tryd.prog 104 #[.pointer (some ⟨g, 0, none⟩), .int .u8 c] w fun e w' => e = .returned (.bool true) ∧
      w'.heap[g]? = some (.cells #[.int .i64 (if kf = 0 then n else y), .int .i64 (if kf = 1 then n else mo), .int .i64 wk, .int .i64 (if kf = 2 then n else d), .int .i64 (if kf = 3 then n else h), .int .i64 (if kf = 4 then n else mi), .int .i64 (if kf = 5 then n else s), .int .i64 ((kf : Int) + 1), .bool true, .bool false, .bool false, .bool en, .int .i64 0, .int .i64 0] 106 (0, 0)) ∧ Below B w w' := by
  have HG := Lib.hid hg
  have HN := Lib.hid hnone
  have h87 : (c == 87) = false := beq_eq_false_iff_ne.mpr hc
  have hc7 : w.cell? ⟨g, 7, none⟩ = some (.int .i64 nx) := (blk_cell hg 7).trans rfl
  have hc9 : w.cell? ⟨g, 9, none⟩ = some (.bool false) := (blk_cell hg 9).trans rfl
  clear hg hnone hc
  go_enter Tryd.func104, Tryd.ntmps104
  go_wp2
  go_loop [7] (fun i => ∃ k : Nat, 0 ≤ k ∧ k ≤ 3 ∧ i = .int .i64 k ∧ Hid (fnd c (3 - k) k = some kf)) (fun i => 6 - (intOf i).toNat)
  case atStart => exact ⟨k0, hk0.1, hk0.2, rfl, HN⟩
  case round =>
    obtain ⟨k, hk1, hk, rfl, HK⟩ := hrel
    by_cases hlt : k < 3
    · have hi := lidx k (by omega)
      by_cases hne : L k = c
      · obtain rfl : k = kf := by
          have := HK.out; rw [show 3 - k = (3 - k - 1) + 1 by omega] at this; simpa [fnd, hne] using this
        have hg := HG.out
        clear HK hi
        have hcz0 : w.cell? ⟨g, 0, none⟩ = some (.int .i64 y) := (blk_cell hg 0).trans rfl
        have hfz0 := blk_frozen hg 0
        have hcz1 : w.cell? ⟨g, 1, none⟩ = some (.int .i64 mo) := (blk_cell hg 1).trans rfl
        have hfz1 := blk_frozen hg 1
        have hcz2 : w.cell? ⟨g, 2, none⟩ = some (.int .i64 wk) := (blk_cell hg 2).trans rfl
        have hfz2 := blk_frozen hg 2
        have hcz3 : w.cell? ⟨g, 3, none⟩ = some (.int .i64 d) := (blk_cell hg 3).trans rfl
        have hfz3 := blk_frozen hg 3
        have hcz4 : w.cell? ⟨g, 4, none⟩ = some (.int .i64 h) := (blk_cell hg 4).trans rfl
        have hfz4 := blk_frozen hg 4
        have hcz5 : w.cell? ⟨g, 5, none⟩ = some (.int .i64 mi) := (blk_cell hg 5).trans rfl
        have hfz5 := blk_frozen hg 5
        have hcz6 : w.cell? ⟨g, 6, none⟩ = some (.int .i64 s) := (blk_cell hg 6).trans rfl
        have hfz6 := blk_frozen hg 6
        have hcz7 : w.cell? ⟨g, 7, none⟩ = some (.int .i64 nx) := (blk_cell hg 7).trans rfl
        have hfz7 := blk_frozen hg 7
        have hcz8 : w.cell? ⟨g, 8, none⟩ = some (.bool bg) := (blk_cell hg 8).trans rfl
        have hfz8 := blk_frozen hg 8
        have hcz9 : w.cell? ⟨g, 9, none⟩ = some (.bool false) := (blk_cell hg 9).trans rfl
        have hfz9 := blk_frozen hg 9
        have hcz10 : w.cell? ⟨g, 10, none⟩ = some (.bool em) := (blk_cell hg 10).trans rfl
        have hfz10 := blk_frozen hg 10
        have hcz11 : w.cell? ⟨g, 11, none⟩ = some (.bool en) := (blk_cell hg 11).trans rfl
        have hfz11 := blk_frozen hg 11
        have hcz12 : w.cell? ⟨g, 12, none⟩ = some (.int .i64 n) := (blk_cell hg 12).trans rfl
        have hfz12 := blk_frozen hg 12
        have hcz13 : w.cell? ⟨g, 13, none⟩ = some (.int .i64 hs) := (blk_cell hg 13).trans rfl
        have hfz13 := blk_frozen hg 13
        clear hg
        obtain rfl | rfl | rfl : k = 0 ∨ k = 1 ∨ k = 2 := by omega
        · obtain rfl : c = 89 := by simpa [L] using hne.symm
          clear hne
          have hi : ∀ W, (Instr.index 9 (.string (⟨#[89, 77, 68, 72, 77, 83]⟩ : ByteArray)) (.int .i64 0)).run Tryd.prog W = .ok (.int .u8 89) W := lidx 0 (by omega)
          go_wp2
          go_region
          have hb1 : Below B w ((w.alloc (PZ g)).drew) := below_drew1' ((Below.refl B w).alloc hw _)
          have hg1 : ((w.alloc (PZ g)).drew).heap[g]? = some (.cells #[.int .i64 y, .int .i64 mo, .int .i64 wk, .int .i64 d, .int .i64 h, .int .i64 mi, .int .i64 s, .int .i64 nx, .bool bg, .bool false, .bool em, .bool en, .int .i64 n, .int .i64 hs] 106 (0, 0)) := blk_drew (blk_alloc HG.out _)
          have hz1 : ((w.alloc (PZ g)).drew).heap[w.heap.size]? = some (PZ g) := by show (w.heap.push (PZ g))[w.heap.size]? = some (PZ g); exact Array.getElem?_push_size
          have hzne : g ≠ w.heap.size := Nat.ne_of_lt (blk_lt HG.out)
          clear hcz0 hfz0 hcz1 hfz1 hcz2 hfz2 hcz3 hfz3 hcz4 hfz4 hcz5 hfz5 hcz6 hfz6 hcz7 hfz7 hcz8 hfz8 hcz9 hfz9 hcz10 hfz10 hcz11 hfz11 hcz12 hfz12 hcz13 hfz13 hc7 hc9
          change Exit.then _ _ _ _ ((w.alloc (PZ g)).drew)
          generalize (w.alloc (PZ g)).drew = w1 at *
          generalize w.heap.size = z at *
          have HG1 := Lib.hid hg1
          have HB1 := Lib.hid hb1
          clear hb1
          have hpz : w1.cell? ⟨z, 0, none⟩ = some (.pointer (some ⟨g, 0, none⟩)) := (blk_cell hz1 0).trans rfl
          have hcz0 : w1.cell? ⟨g, 0, none⟩ = some (.int .i64 y) := (blk_cell hg1 0).trans rfl
          have hfz0 := blk_frozen hg1 0
          have hcz1 : w1.cell? ⟨g, 1, none⟩ = some (.int .i64 mo) := (blk_cell hg1 1).trans rfl
          have hfz1 := blk_frozen hg1 1
          have hcz2 : w1.cell? ⟨g, 2, none⟩ = some (.int .i64 wk) := (blk_cell hg1 2).trans rfl
          have hfz2 := blk_frozen hg1 2
          have hcz3 : w1.cell? ⟨g, 3, none⟩ = some (.int .i64 d) := (blk_cell hg1 3).trans rfl
          have hfz3 := blk_frozen hg1 3
          have hcz4 : w1.cell? ⟨g, 4, none⟩ = some (.int .i64 h) := (blk_cell hg1 4).trans rfl
          have hfz4 := blk_frozen hg1 4
          have hcz5 : w1.cell? ⟨g, 5, none⟩ = some (.int .i64 mi) := (blk_cell hg1 5).trans rfl
          have hfz5 := blk_frozen hg1 5
          have hcz6 : w1.cell? ⟨g, 6, none⟩ = some (.int .i64 s) := (blk_cell hg1 6).trans rfl
          have hfz6 := blk_frozen hg1 6
          have hcz7 : w1.cell? ⟨g, 7, none⟩ = some (.int .i64 nx) := (blk_cell hg1 7).trans rfl
          have hfz7 := blk_frozen hg1 7
          have hcz8 : w1.cell? ⟨g, 8, none⟩ = some (.bool bg) := (blk_cell hg1 8).trans rfl
          have hfz8 := blk_frozen hg1 8
          have hcz9 : w1.cell? ⟨g, 9, none⟩ = some (.bool false) := (blk_cell hg1 9).trans rfl
          have hfz9 := blk_frozen hg1 9
          have hcz10 : w1.cell? ⟨g, 10, none⟩ = some (.bool em) := (blk_cell hg1 10).trans rfl
          have hfz10 := blk_frozen hg1 10
          have hcz11 : w1.cell? ⟨g, 11, none⟩ = some (.bool en) := (blk_cell hg1 11).trans rfl
          have hfz11 := blk_frozen hg1 11
          have hcz12 : w1.cell? ⟨g, 12, none⟩ = some (.int .i64 n) := (blk_cell hg1 12).trans rfl
          have hfz12 := blk_frozen hg1 12
          have hcz13 : w1.cell? ⟨g, 13, none⟩ = some (.int .i64 hs) := (blk_cell hg1 13).trans rfl
          have hfz13 := blk_frozen hg1 13
          clear hg1 hz1
          go_wp2
          go_region
          go_wp2
          go_ret
          exact ⟨rfl, blk_drew ((blk_set (blk_set (blk_set (blk_set (blk_set (blk_set HG1.out _ _) _ _) _ _) _ _) _ _) _ _).trans rfl), below_drew1' (below_set_ge (below_set_ge (below_set_ge (below_set_ge (below_set_ge (below_set_ge HB1.out hB) hB) hB) hB) hB) hB)⟩
        · obtain rfl : c = 77 := by simpa [L] using hne.symm
          clear hne
          have hi : ∀ W, (Instr.index 9 (.string (⟨#[89, 77, 68, 72, 77, 83]⟩ : ByteArray)) (.int .i64 1)).run Tryd.prog W = .ok (.int .u8 77) W := lidx 1 (by omega)
          go_wp2
          go_region
          have hb1 : Below B w ((w.alloc (PZ g)).drew) := below_drew1' ((Below.refl B w).alloc hw _)
          have hg1 : ((w.alloc (PZ g)).drew).heap[g]? = some (.cells #[.int .i64 y, .int .i64 mo, .int .i64 wk, .int .i64 d, .int .i64 h, .int .i64 mi, .int .i64 s, .int .i64 nx, .bool bg, .bool false, .bool em, .bool en, .int .i64 n, .int .i64 hs] 106 (0, 0)) := blk_drew (blk_alloc HG.out _)
          have hz1 : ((w.alloc (PZ g)).drew).heap[w.heap.size]? = some (PZ g) := by show (w.heap.push (PZ g))[w.heap.size]? = some (PZ g); exact Array.getElem?_push_size
          have hzne : g ≠ w.heap.size := Nat.ne_of_lt (blk_lt HG.out)
          clear hcz0 hfz0 hcz1 hfz1 hcz2 hfz2 hcz3 hfz3 hcz4 hfz4 hcz5 hfz5 hcz6 hfz6 hcz7 hfz7 hcz8 hfz8 hcz9 hfz9 hcz10 hfz10 hcz11 hfz11 hcz12 hfz12 hcz13 hfz13 hc7 hc9
          change Exit.then _ _ _ _ ((w.alloc (PZ g)).drew)
          generalize (w.alloc (PZ g)).drew = w1 at *
          generalize w.heap.size = z at *
          have HG1 := Lib.hid hg1
          have HB1 := Lib.hid hb1
          clear hb1
          have hpz : w1.cell? ⟨z, 1, none⟩ = some (.pointer (some ⟨g, 1, none⟩)) := (blk_cell hz1 1).trans rfl
          have hcz0 : w1.cell? ⟨g, 0, none⟩ = some (.int .i64 y) := (blk_cell hg1 0).trans rfl
          have hfz0 := blk_frozen hg1 0
          have hcz1 : w1.cell? ⟨g, 1, none⟩ = some (.int .i64 mo) := (blk_cell hg1 1).trans rfl
          have hfz1 := blk_frozen hg1 1
          have hcz2 : w1.cell? ⟨g, 2, none⟩ = some (.int .i64 wk) := (blk_cell hg1 2).trans rfl
          have hfz2 := blk_frozen hg1 2
          have hcz3 : w1.cell? ⟨g, 3, none⟩ = some (.int .i64 d) := (blk_cell hg1 3).trans rfl
          have hfz3 := blk_frozen hg1 3
          have hcz4 : w1.cell? ⟨g, 4, none⟩ = some (.int .i64 h) := (blk_cell hg1 4).trans rfl
          have hfz4 := blk_frozen hg1 4
          have hcz5 : w1.cell? ⟨g, 5, none⟩ = some (.int .i64 mi) := (blk_cell hg1 5).trans rfl
          have hfz5 := blk_frozen hg1 5
          have hcz6 : w1.cell? ⟨g, 6, none⟩ = some (.int .i64 s) := (blk_cell hg1 6).trans rfl
          have hfz6 := blk_frozen hg1 6
          have hcz7 : w1.cell? ⟨g, 7, none⟩ = some (.int .i64 nx) := (blk_cell hg1 7).trans rfl
          have hfz7 := blk_frozen hg1 7
          have hcz8 : w1.cell? ⟨g, 8, none⟩ = some (.bool bg) := (blk_cell hg1 8).trans rfl
          have hfz8 := blk_frozen hg1 8
          have hcz9 : w1.cell? ⟨g, 9, none⟩ = some (.bool false) := (blk_cell hg1 9).trans rfl
          have hfz9 := blk_frozen hg1 9
          have hcz10 : w1.cell? ⟨g, 10, none⟩ = some (.bool em) := (blk_cell hg1 10).trans rfl
          have hfz10 := blk_frozen hg1 10
          have hcz11 : w1.cell? ⟨g, 11, none⟩ = some (.bool en) := (blk_cell hg1 11).trans rfl
          have hfz11 := blk_frozen hg1 11
          have hcz12 : w1.cell? ⟨g, 12, none⟩ = some (.int .i64 n) := (blk_cell hg1 12).trans rfl
          have hfz12 := blk_frozen hg1 12
          have hcz13 : w1.cell? ⟨g, 13, none⟩ = some (.int .i64 hs) := (blk_cell hg1 13).trans rfl
          have hfz13 := blk_frozen hg1 13
          clear hg1 hz1
          go_wp2
          go_region
          go_wp2
          go_ret
          exact ⟨rfl, blk_drew ((blk_set (blk_set (blk_set (blk_set (blk_set (blk_set HG1.out _ _) _ _) _ _) _ _) _ _) _ _).trans rfl), below_drew1' (below_set_ge (below_set_ge (below_set_ge (below_set_ge (below_set_ge (below_set_ge HB1.out hB) hB) hB) hB) hB) hB)⟩
        · obtain rfl : c = 68 := by simpa [L] using hne.symm
          clear hne
          have hi : ∀ W, (Instr.index 9 (.string (⟨#[89, 77, 68, 72, 77, 83]⟩ : ByteArray)) (.int .i64 2)).run Tryd.prog W = .ok (.int .u8 68) W := lidx 2 (by omega)
          go_wp2
          go_region
          have hb1 : Below B w ((w.alloc (PZ g)).drew) := below_drew1' ((Below.refl B w).alloc hw _)
          have hg1 : ((w.alloc (PZ g)).drew).heap[g]? = some (.cells #[.int .i64 y, .int .i64 mo, .int .i64 wk, .int .i64 d, .int .i64 h, .int .i64 mi, .int .i64 s, .int .i64 nx, .bool bg, .bool false, .bool em, .bool en, .int .i64 n, .int .i64 hs] 106 (0, 0)) := blk_drew (blk_alloc HG.out _)
          have hz1 : ((w.alloc (PZ g)).drew).heap[w.heap.size]? = some (PZ g) := by show (w.heap.push (PZ g))[w.heap.size]? = some (PZ g); exact Array.getElem?_push_size
          have hzne : g ≠ w.heap.size := Nat.ne_of_lt (blk_lt HG.out)
          clear hcz0 hfz0 hcz1 hfz1 hcz2 hfz2 hcz3 hfz3 hcz4 hfz4 hcz5 hfz5 hcz6 hfz6 hcz7 hfz7 hcz8 hfz8 hcz9 hfz9 hcz10 hfz10 hcz11 hfz11 hcz12 hfz12 hcz13 hfz13 hc7 hc9
          change Exit.then _ _ _ _ ((w.alloc (PZ g)).drew)
          generalize (w.alloc (PZ g)).drew = w1 at *
          generalize w.heap.size = z at *
          have HG1 := Lib.hid hg1
          have HB1 := Lib.hid hb1
          clear hb1
          have hpz : w1.cell? ⟨z, 2, none⟩ = some (.pointer (some ⟨g, 3, none⟩)) := (blk_cell hz1 2).trans rfl
          have hcz0 : w1.cell? ⟨g, 0, none⟩ = some (.int .i64 y) := (blk_cell hg1 0).trans rfl
          have hfz0 := blk_frozen hg1 0
          have hcz1 : w1.cell? ⟨g, 1, none⟩ = some (.int .i64 mo) := (blk_cell hg1 1).trans rfl
          have hfz1 := blk_frozen hg1 1
          have hcz2 : w1.cell? ⟨g, 2, none⟩ = some (.int .i64 wk) := (blk_cell hg1 2).trans rfl
          have hfz2 := blk_frozen hg1 2
          have hcz3 : w1.cell? ⟨g, 3, none⟩ = some (.int .i64 d) := (blk_cell hg1 3).trans rfl
          have hfz3 := blk_frozen hg1 3
          have hcz4 : w1.cell? ⟨g, 4, none⟩ = some (.int .i64 h) := (blk_cell hg1 4).trans rfl
          have hfz4 := blk_frozen hg1 4
          have hcz5 : w1.cell? ⟨g, 5, none⟩ = some (.int .i64 mi) := (blk_cell hg1 5).trans rfl
          have hfz5 := blk_frozen hg1 5
          have hcz6 : w1.cell? ⟨g, 6, none⟩ = some (.int .i64 s) := (blk_cell hg1 6).trans rfl
          have hfz6 := blk_frozen hg1 6
          have hcz7 : w1.cell? ⟨g, 7, none⟩ = some (.int .i64 nx) := (blk_cell hg1 7).trans rfl
          have hfz7 := blk_frozen hg1 7
          have hcz8 : w1.cell? ⟨g, 8, none⟩ = some (.bool bg) := (blk_cell hg1 8).trans rfl
          have hfz8 := blk_frozen hg1 8
          have hcz9 : w1.cell? ⟨g, 9, none⟩ = some (.bool false) := (blk_cell hg1 9).trans rfl
          have hfz9 := blk_frozen hg1 9
          have hcz10 : w1.cell? ⟨g, 10, none⟩ = some (.bool em) := (blk_cell hg1 10).trans rfl
          have hfz10 := blk_frozen hg1 10
          have hcz11 : w1.cell? ⟨g, 11, none⟩ = some (.bool en) := (blk_cell hg1 11).trans rfl
          have hfz11 := blk_frozen hg1 11
          have hcz12 : w1.cell? ⟨g, 12, none⟩ = some (.int .i64 n) := (blk_cell hg1 12).trans rfl
          have hfz12 := blk_frozen hg1 12
          have hcz13 : w1.cell? ⟨g, 13, none⟩ = some (.int .i64 hs) := (blk_cell hg1 13).trans rfl
          have hfz13 := blk_frozen hg1 13
          clear hg1 hz1
          go_wp2
          go_region
          go_wp2
          go_ret
          exact ⟨rfl, blk_drew ((blk_set (blk_set (blk_set (blk_set (blk_set (blk_set HG1.out _ _) _ _) _ _) _ _) _ _) _ _).trans rfl), below_drew1' (below_set_ge (below_set_ge (below_set_ge (below_set_ge (below_set_ge (below_set_ge HB1.out hB) hB) hB) hB) hB) hB)⟩
      · have HS : Hid (fnd c (3 - (k + 1)) (k + 1) = some kf) := by
          have := HK.out; rw [show 3 - k = (3 - (k + 1)) + 1 by omega] at this; simp only [fnd, if_neg hne] at this; exact this
        generalize hq : L k = l at *
        have HQ := Lib.hid hq
        clear hq
        have hb : (l == c) = false := beq_eq_false_iff_ne.mpr hne
        have hb2 : (l != c) = true := bne_iff_ne.mpr hne
        clear hne
        go_wp2
        exact ⟨⟨k + 1, by omega, by omega, by go_num, HS⟩, by simp [intOf]; omega⟩
    · exfalso; have := HK.out; rw [show 3 - k = 0 by omega] at this; simp [fnd] at this
set_option maxRecDepth 100000 in
set_option maxHeartbeats 4000000 in
theorem letter_y3 (y mo wk d h mi s nx n hs c : Int) (k0 kf : Nat) (bg em en : Bool) (w : World) (B g : Nat) (hB : B ≤ g) (hw : B ≤ w.heap.size) (hc : c ≠ 87) (hk0 : 3 ≤ k0 ∧ k0 ≤ 6) (hm : (if 3 < nx then nx else 3) = (k0 : Int))
    (hg : w.heap[g]? = some (.cells #[.int .i64 y, .int .i64 mo, .int .i64 wk, .int .i64 d, .int .i64 h, .int .i64 mi, .int .i64 s, .int .i64 nx, .bool bg, .bool true, .bool em, .bool en, .int .i64 n, .int .i64 hs] 106 (0, 0))) (hnone : fnd c (6 - k0) k0 = some kf) :
    Calls Tryd.prog 104 #[.pointer (some ⟨g, 0, none⟩), .int .u8 c] w fun e w' => e = .returned (.bool true) ∧
      w'.heap[g]? = some (.cells #[.int .i64 (if kf = 0 then n else y), .int .i64 (if kf = 1 then n else mo), .int .i64 wk, .int .i64 (if kf = 2 then n else d), .int .i64 (if kf = 3 then n else h), .int .i64 (if kf = 4 then n else mi), .int .i64 (if kf = 5 then n else s), .int .i64 ((kf : Int) + 1), .bool true, .bool true, .bool false, .bool en, .int .i64 0, .int .i64 0] 106 (0, 0)) ∧ Below B w w' := by
  have HG := Lib.hid hg
  have HN := Lib.hid hnone
  have h87 : (c == 87) = false := beq_eq_false_iff_ne.mpr hc
  have hc7 : w.cell? ⟨g, 7, none⟩ = some (.int .i64 nx) := (blk_cell hg 7).trans rfl
  have hc9 : w.cell? ⟨g, 9, none⟩ = some (.bool true) := (blk_cell hg 9).trans rfl
  clear hg hnone hc
  go_enter Tryd.func104, Tryd.ntmps104
  go_wp2
  go_loop [7] (fun i => ∃ k : Nat, 3 ≤ k ∧ k ≤ 6 ∧ i = .int .i64 k ∧ Hid (fnd c (6 - k) k = some kf)) (fun i => 6 - (intOf i).toNat)
  case atStart => exact ⟨k0, hk0.1, hk0.2, rfl, HN⟩
  case round =>
    obtain ⟨k, hk1, hk, rfl, HK⟩ := hrel
    by_cases hlt : k < 6
    · have hi := lidx k (by omega)
      by_cases hne : L k = c
      · obtain rfl : k = kf := by
          have := HK.out; rw [show 6 - k = (6 - k - 1) + 1 by omega] at this; simpa [fnd, hne] using this
        have hg := HG.out
        clear HK hi
        have hcz0 : w.cell? ⟨g, 0, none⟩ = some (.int .i64 y) := (blk_cell hg 0).trans rfl
        have hfz0 := blk_frozen hg 0
        have hcz1 : w.cell? ⟨g, 1, none⟩ = some (.int .i64 mo) := (blk_cell hg 1).trans rfl
        have hfz1 := blk_frozen hg 1
        have hcz2 : w.cell? ⟨g, 2, none⟩ = some (.int .i64 wk) := (blk_cell hg 2).trans rfl
        have hfz2 := blk_frozen hg 2
        have hcz3 : w.cell? ⟨g, 3, none⟩ = some (.int .i64 d) := (blk_cell hg 3).trans rfl
        have hfz3 := blk_frozen hg 3
        have hcz4 : w.cell? ⟨g, 4, none⟩ = some (.int .i64 h) := (blk_cell hg 4).trans rfl
        have hfz4 := blk_frozen hg 4
        have hcz5 : w.cell? ⟨g, 5, none⟩ = some (.int .i64 mi) := (blk_cell hg 5).trans rfl
        have hfz5 := blk_frozen hg 5
        have hcz6 : w.cell? ⟨g, 6, none⟩ = some (.int .i64 s) := (blk_cell hg 6).trans rfl
        have hfz6 := blk_frozen hg 6
        have hcz7 : w.cell? ⟨g, 7, none⟩ = some (.int .i64 nx) := (blk_cell hg 7).trans rfl
        have hfz7 := blk_frozen hg 7
        have hcz8 : w.cell? ⟨g, 8, none⟩ = some (.bool bg) := (blk_cell hg 8).trans rfl
        have hfz8 := blk_frozen hg 8
        have hcz9 : w.cell? ⟨g, 9, none⟩ = some (.bool true) := (blk_cell hg 9).trans rfl
        have hfz9 := blk_frozen hg 9
        have hcz10 : w.cell? ⟨g, 10, none⟩ = some (.bool em) := (blk_cell hg 10).trans rfl
        have hfz10 := blk_frozen hg 10
        have hcz11 : w.cell? ⟨g, 11, none⟩ = some (.bool en) := (blk_cell hg 11).trans rfl
        have hfz11 := blk_frozen hg 11
        have hcz12 : w.cell? ⟨g, 12, none⟩ = some (.int .i64 n) := (blk_cell hg 12).trans rfl
        have hfz12 := blk_frozen hg 12
        have hcz13 : w.cell? ⟨g, 13, none⟩ = some (.int .i64 hs) := (blk_cell hg 13).trans rfl
        have hfz13 := blk_frozen hg 13
        clear hg
        obtain rfl | rfl | rfl : k = 3 ∨ k = 4 ∨ k = 5 := by omega
        · obtain rfl : c = 72 := by simpa [L] using hne.symm
          clear hne
          have hi : ∀ W, (Instr.index 9 (.string (⟨#[89, 77, 68, 72, 77, 83]⟩ : ByteArray)) (.int .i64 3)).run Tryd.prog W = .ok (.int .u8 72) W := lidx 3 (by omega)
          go_wp2
          go_region
          have hb1 : Below B w ((w.alloc (PZ g)).drew) := below_drew1' ((Below.refl B w).alloc hw _)
          have hg1 : ((w.alloc (PZ g)).drew).heap[g]? = some (.cells #[.int .i64 y, .int .i64 mo, .int .i64 wk, .int .i64 d, .int .i64 h, .int .i64 mi, .int .i64 s, .int .i64 nx, .bool bg, .bool true, .bool em, .bool en, .int .i64 n, .int .i64 hs] 106 (0, 0)) := blk_drew (blk_alloc HG.out _)
          have hz1 : ((w.alloc (PZ g)).drew).heap[w.heap.size]? = some (PZ g) := by show (w.heap.push (PZ g))[w.heap.size]? = some (PZ g); exact Array.getElem?_push_size
          have hzne : g ≠ w.heap.size := Nat.ne_of_lt (blk_lt HG.out)
          clear hcz0 hfz0 hcz1 hfz1 hcz2 hfz2 hcz3 hfz3 hcz4 hfz4 hcz5 hfz5 hcz6 hfz6 hcz7 hfz7 hcz8 hfz8 hcz9 hfz9 hcz10 hfz10 hcz11 hfz11 hcz12 hfz12 hcz13 hfz13 hc7 hc9
          change Exit.then _ _ _ _ ((w.alloc (PZ g)).drew)
          generalize (w.alloc (PZ g)).drew = w1 at *
          generalize w.heap.size = z at *
          have HG1 := Lib.hid hg1
          have HB1 := Lib.hid hb1
          clear hb1
          have hpz : w1.cell? ⟨z, 3, none⟩ = some (.pointer (some ⟨g, 4, none⟩)) := (blk_cell hz1 3).trans rfl
          have hcz0 : w1.cell? ⟨g, 0, none⟩ = some (.int .i64 y) := (blk_cell hg1 0).trans rfl
          have hfz0 := blk_frozen hg1 0
          have hcz1 : w1.cell? ⟨g, 1, none⟩ = some (.int .i64 mo) := (blk_cell hg1 1).trans rfl
          have hfz1 := blk_frozen hg1 1
          have hcz2 : w1.cell? ⟨g, 2, none⟩ = some (.int .i64 wk) := (blk_cell hg1 2).trans rfl
          have hfz2 := blk_frozen hg1 2
          have hcz3 : w1.cell? ⟨g, 3, none⟩ = some (.int .i64 d) := (blk_cell hg1 3).trans rfl
          have hfz3 := blk_frozen hg1 3
          have hcz4 : w1.cell? ⟨g, 4, none⟩ = some (.int .i64 h) := (blk_cell hg1 4).trans rfl
          have hfz4 := blk_frozen hg1 4
          have hcz5 : w1.cell? ⟨g, 5, none⟩ = some (.int .i64 mi) := (blk_cell hg1 5).trans rfl
          have hfz5 := blk_frozen hg1 5
          have hcz6 : w1.cell? ⟨g, 6, none⟩ = some (.int .i64 s) := (blk_cell hg1 6).trans rfl
          have hfz6 := blk_frozen hg1 6
          have hcz7 : w1.cell? ⟨g, 7, none⟩ = some (.int .i64 nx) := (blk_cell hg1 7).trans rfl
          have hfz7 := blk_frozen hg1 7
          have hcz8 : w1.cell? ⟨g, 8, none⟩ = some (.bool bg) := (blk_cell hg1 8).trans rfl
          have hfz8 := blk_frozen hg1 8
          have hcz9 : w1.cell? ⟨g, 9, none⟩ = some (.bool true) := (blk_cell hg1 9).trans rfl
          have hfz9 := blk_frozen hg1 9
          have hcz10 : w1.cell? ⟨g, 10, none⟩ = some (.bool em) := (blk_cell hg1 10).trans rfl
          have hfz10 := blk_frozen hg1 10
          have hcz11 : w1.cell? ⟨g, 11, none⟩ = some (.bool en) := (blk_cell hg1 11).trans rfl
          have hfz11 := blk_frozen hg1 11
          have hcz12 : w1.cell? ⟨g, 12, none⟩ = some (.int .i64 n) := (blk_cell hg1 12).trans rfl
          have hfz12 := blk_frozen hg1 12
          have hcz13 : w1.cell? ⟨g, 13, none⟩ = some (.int .i64 hs) := (blk_cell hg1 13).trans rfl
          have hfz13 := blk_frozen hg1 13
          clear hg1 hz1
          go_wp2
          go_region
          go_wp2
          go_ret
          exact ⟨rfl, blk_drew ((blk_set (blk_set (blk_set (blk_set (blk_set (blk_set HG1.out _ _) _ _) _ _) _ _) _ _) _ _).trans rfl), below_drew1' (below_set_ge (below_set_ge (below_set_ge (below_set_ge (below_set_ge (below_set_ge HB1.out hB) hB) hB) hB) hB) hB)⟩
        · obtain rfl : c = 77 := by simpa [L] using hne.symm
          clear hne
          have hi : ∀ W, (Instr.index 9 (.string (⟨#[89, 77, 68, 72, 77, 83]⟩ : ByteArray)) (.int .i64 4)).run Tryd.prog W = .ok (.int .u8 77) W := lidx 4 (by omega)
          go_wp2
          go_region
          have hb1 : Below B w ((w.alloc (PZ g)).drew) := below_drew1' ((Below.refl B w).alloc hw _)
          have hg1 : ((w.alloc (PZ g)).drew).heap[g]? = some (.cells #[.int .i64 y, .int .i64 mo, .int .i64 wk, .int .i64 d, .int .i64 h, .int .i64 mi, .int .i64 s, .int .i64 nx, .bool bg, .bool true, .bool em, .bool en, .int .i64 n, .int .i64 hs] 106 (0, 0)) := blk_drew (blk_alloc HG.out _)
          have hz1 : ((w.alloc (PZ g)).drew).heap[w.heap.size]? = some (PZ g) := by show (w.heap.push (PZ g))[w.heap.size]? = some (PZ g); exact Array.getElem?_push_size
          have hzne : g ≠ w.heap.size := Nat.ne_of_lt (blk_lt HG.out)
          clear hcz0 hfz0 hcz1 hfz1 hcz2 hfz2 hcz3 hfz3 hcz4 hfz4 hcz5 hfz5 hcz6 hfz6 hcz7 hfz7 hcz8 hfz8 hcz9 hfz9 hcz10 hfz10 hcz11 hfz11 hcz12 hfz12 hcz13 hfz13 hc7 hc9
          change Exit.then _ _ _ _ ((w.alloc (PZ g)).drew)
          generalize (w.alloc (PZ g)).drew = w1 at *
          generalize w.heap.size = z at *
          have HG1 := Lib.hid hg1
          have HB1 := Lib.hid hb1
          clear hb1
          have hpz : w1.cell? ⟨z, 4, none⟩ = some (.pointer (some ⟨g, 5, none⟩)) := (blk_cell hz1 4).trans rfl
          have hcz0 : w1.cell? ⟨g, 0, none⟩ = some (.int .i64 y) := (blk_cell hg1 0).trans rfl
          have hfz0 := blk_frozen hg1 0
          have hcz1 : w1.cell? ⟨g, 1, none⟩ = some (.int .i64 mo) := (blk_cell hg1 1).trans rfl
          have hfz1 := blk_frozen hg1 1
          have hcz2 : w1.cell? ⟨g, 2, none⟩ = some (.int .i64 wk) := (blk_cell hg1 2).trans rfl
          have hfz2 := blk_frozen hg1 2
          have hcz3 : w1.cell? ⟨g, 3, none⟩ = some (.int .i64 d) := (blk_cell hg1 3).trans rfl
          have hfz3 := blk_frozen hg1 3
          have hcz4 : w1.cell? ⟨g, 4, none⟩ = some (.int .i64 h) := (blk_cell hg1 4).trans rfl
          have hfz4 := blk_frozen hg1 4
          have hcz5 : w1.cell? ⟨g, 5, none⟩ = some (.int .i64 mi) := (blk_cell hg1 5).trans rfl
          have hfz5 := blk_frozen hg1 5
          have hcz6 : w1.cell? ⟨g, 6, none⟩ = some (.int .i64 s) := (blk_cell hg1 6).trans rfl
          have hfz6 := blk_frozen hg1 6
          have hcz7 : w1.cell? ⟨g, 7, none⟩ = some (.int .i64 nx) := (blk_cell hg1 7).trans rfl
          have hfz7 := blk_frozen hg1 7
          have hcz8 : w1.cell? ⟨g, 8, none⟩ = some (.bool bg) := (blk_cell hg1 8).trans rfl
          have hfz8 := blk_frozen hg1 8
          have hcz9 : w1.cell? ⟨g, 9, none⟩ = some (.bool true) := (blk_cell hg1 9).trans rfl
          have hfz9 := blk_frozen hg1 9
          have hcz10 : w1.cell? ⟨g, 10, none⟩ = some (.bool em) := (blk_cell hg1 10).trans rfl
          have hfz10 := blk_frozen hg1 10
          have hcz11 : w1.cell? ⟨g, 11, none⟩ = some (.bool en) := (blk_cell hg1 11).trans rfl
          have hfz11 := blk_frozen hg1 11
          have hcz12 : w1.cell? ⟨g, 12, none⟩ = some (.int .i64 n) := (blk_cell hg1 12).trans rfl
          have hfz12 := blk_frozen hg1 12
          have hcz13 : w1.cell? ⟨g, 13, none⟩ = some (.int .i64 hs) := (blk_cell hg1 13).trans rfl
          have hfz13 := blk_frozen hg1 13
          clear hg1 hz1
          go_wp2
          go_region
          go_wp2
          go_ret
          exact ⟨rfl, blk_drew ((blk_set (blk_set (blk_set (blk_set (blk_set (blk_set HG1.out _ _) _ _) _ _) _ _) _ _) _ _).trans rfl), below_drew1' (below_set_ge (below_set_ge (below_set_ge (below_set_ge (below_set_ge (below_set_ge HB1.out hB) hB) hB) hB) hB) hB)⟩
        · obtain rfl : c = 83 := by simpa [L] using hne.symm
          clear hne
          have hi : ∀ W, (Instr.index 9 (.string (⟨#[89, 77, 68, 72, 77, 83]⟩ : ByteArray)) (.int .i64 5)).run Tryd.prog W = .ok (.int .u8 83) W := lidx 5 (by omega)
          go_wp2
          go_region
          have hb1 : Below B w ((w.alloc (PZ g)).drew) := below_drew1' ((Below.refl B w).alloc hw _)
          have hg1 : ((w.alloc (PZ g)).drew).heap[g]? = some (.cells #[.int .i64 y, .int .i64 mo, .int .i64 wk, .int .i64 d, .int .i64 h, .int .i64 mi, .int .i64 s, .int .i64 nx, .bool bg, .bool true, .bool em, .bool en, .int .i64 n, .int .i64 hs] 106 (0, 0)) := blk_drew (blk_alloc HG.out _)
          have hz1 : ((w.alloc (PZ g)).drew).heap[w.heap.size]? = some (PZ g) := by show (w.heap.push (PZ g))[w.heap.size]? = some (PZ g); exact Array.getElem?_push_size
          have hzne : g ≠ w.heap.size := Nat.ne_of_lt (blk_lt HG.out)
          clear hcz0 hfz0 hcz1 hfz1 hcz2 hfz2 hcz3 hfz3 hcz4 hfz4 hcz5 hfz5 hcz6 hfz6 hcz7 hfz7 hcz8 hfz8 hcz9 hfz9 hcz10 hfz10 hcz11 hfz11 hcz12 hfz12 hcz13 hfz13 hc7 hc9
          change Exit.then _ _ _ _ ((w.alloc (PZ g)).drew)
          generalize (w.alloc (PZ g)).drew = w1 at *
          generalize w.heap.size = z at *
          have HG1 := Lib.hid hg1
          have HB1 := Lib.hid hb1
          clear hb1
          have hpz : w1.cell? ⟨z, 5, none⟩ = some (.pointer (some ⟨g, 6, none⟩)) := (blk_cell hz1 5).trans rfl
          have hcz0 : w1.cell? ⟨g, 0, none⟩ = some (.int .i64 y) := (blk_cell hg1 0).trans rfl
          have hfz0 := blk_frozen hg1 0
          have hcz1 : w1.cell? ⟨g, 1, none⟩ = some (.int .i64 mo) := (blk_cell hg1 1).trans rfl
          have hfz1 := blk_frozen hg1 1
          have hcz2 : w1.cell? ⟨g, 2, none⟩ = some (.int .i64 wk) := (blk_cell hg1 2).trans rfl
          have hfz2 := blk_frozen hg1 2
          have hcz3 : w1.cell? ⟨g, 3, none⟩ = some (.int .i64 d) := (blk_cell hg1 3).trans rfl
          have hfz3 := blk_frozen hg1 3
          have hcz4 : w1.cell? ⟨g, 4, none⟩ = some (.int .i64 h) := (blk_cell hg1 4).trans rfl
          have hfz4 := blk_frozen hg1 4
          have hcz5 : w1.cell? ⟨g, 5, none⟩ = some (.int .i64 mi) := (blk_cell hg1 5).trans rfl
          have hfz5 := blk_frozen hg1 5
          have hcz6 : w1.cell? ⟨g, 6, none⟩ = some (.int .i64 s) := (blk_cell hg1 6).trans rfl
          have hfz6 := blk_frozen hg1 6
          have hcz7 : w1.cell? ⟨g, 7, none⟩ = some (.int .i64 nx) := (blk_cell hg1 7).trans rfl
          have hfz7 := blk_frozen hg1 7
          have hcz8 : w1.cell? ⟨g, 8, none⟩ = some (.bool bg) := (blk_cell hg1 8).trans rfl
          have hfz8 := blk_frozen hg1 8
          have hcz9 : w1.cell? ⟨g, 9, none⟩ = some (.bool true) := (blk_cell hg1 9).trans rfl
          have hfz9 := blk_frozen hg1 9
          have hcz10 : w1.cell? ⟨g, 10, none⟩ = some (.bool em) := (blk_cell hg1 10).trans rfl
          have hfz10 := blk_frozen hg1 10
          have hcz11 : w1.cell? ⟨g, 11, none⟩ = some (.bool en) := (blk_cell hg1 11).trans rfl
          have hfz11 := blk_frozen hg1 11
          have hcz12 : w1.cell? ⟨g, 12, none⟩ = some (.int .i64 n) := (blk_cell hg1 12).trans rfl
          have hfz12 := blk_frozen hg1 12
          have hcz13 : w1.cell? ⟨g, 13, none⟩ = some (.int .i64 hs) := (blk_cell hg1 13).trans rfl
          have hfz13 := blk_frozen hg1 13
          clear hg1 hz1
          go_wp2
          go_region
          go_wp2
          go_ret
          exact ⟨rfl, blk_drew ((blk_set (blk_set (blk_set (blk_set (blk_set (blk_set HG1.out _ _) _ _) _ _) _ _) _ _) _ _).trans rfl), below_drew1' (below_set_ge (below_set_ge (below_set_ge (below_set_ge (below_set_ge (below_set_ge HB1.out hB) hB) hB) hB) hB) hB)⟩
      · have HS : Hid (fnd c (6 - (k + 1)) (k + 1) = some kf) := by
          have := HK.out; rw [show 6 - k = (6 - (k + 1)) + 1 by omega] at this; simp only [fnd, if_neg hne] at this; exact this
        generalize hq : L k = l at *
        have HQ := Lib.hid hq
        clear hq
        have hb : (l == c) = false := beq_eq_false_iff_ne.mpr hne
        have hb2 : (l != c) = true := bne_iff_ne.mpr hne
        clear hne
        go_wp2
        exact ⟨⟨k + 1, by omega, by omega, by go_num, HS⟩, by simp [intOf]; omega⟩
    · exfalso; have := HK.out; rw [show 6 - k = 0 by omega] at this; simp [fnd] at this
end Go.Proofs.YtiklakkkgmilnaaDoor.Ext
