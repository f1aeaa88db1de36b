/- strconv's formatBase10 into a row of 2 to 6 bytes, whatever the number: no digit is asked for. -/
import Derived.Test.YtinjlpodcabfaaaDoorChecked
import Derived.Shelf.RegionOpenPlain
import Derived.Lib.Walk
import Derived.Lib.ItoaWalk
import Derived.WalkKit
import Derived.RegionTactic
import Derived.BigCall
import Derived.BigGuard
import Derived.CellFam
set_option linter.unusedVariables false
set_option linter.unusedSimpArgs false
namespace Go.Proofs.YtinjlpodcabfaaaDoor.Itoa
open Go Go.RowKit Go.Sort Go.Lib
abbrev ec : UInt8 → Value := fun b => Value.int .u8 (b.toNat : Int)
theorem fam {w : World} {blk off : Nat} {d : Array UInt8} (hH : Holds ec w blk off d) : ∃ G : Nat → Int, (∀ t, t < d.size → w.cell? ⟨blk, off + t, none⟩ = some (.int .u8 (G t))) ∧ ∀ t, t < d.size → w.frozen? ⟨blk, off + t, none⟩ = false :=
  ⟨fun t => (d[t]!.toNat : Int), fun t ht => (hH t ht).1, fun t ht => (hH t ht).2⟩
set_option maxHeartbeats 12800000 in
set_option maxRecDepth 100000 in
theorem fmt2 (blk off cap u : Nat) (d : Array UInt8) (w : World) (hH : Holds ec w blk off d) (hd : d.size = 2) (hu : u < 1000000) :
    Calls Tryd.prog 68 #[.slice (some ⟨blk, off, none⟩) 2 cap, .int .u64 (u : Int)] w fun e w' =>
      e = .returned (.tuple #[]) ∧ ∃ n, w' = (putRow ec w blk off ((d.setIfInBounds 1 (sm (u % 100 * 2 + 1))).setIfInBounds 0 (sm (u % 100 * 2)))).drewN n := by
  have t9 := Tryd.underlying9
  have mixed : Tryd.prog.follows Departure.mixedOrders = true := by kernel_rfl
  obtain ⟨G, hc, hf⟩ := fam hH
  rw [hd] at hc hf
  have HH := Lib.hid hH
  clear hH
  go_enter Tryd.func68, Tryd.ntmps68
  go_name_bytes SM hSM
  have eSM : SM = Lib.smalls := by rw [← hSM]; decide +kernel
  subst eSM
  clear hSM
  go_wp2
  refine wp_loop_rounds 1 ?_
  rw [rounds_succ]
  go_wp2
  go_name_slot 16 x0 hx0
  have hxe0 : x0 = ((u % 100 * 2 : Nat) : Int) := by omega
  have hXa0 : ∀ w, (Instr.index 9 (.string Lib.smalls) (.int .u32 (x0 + 1))).run Tryd.prog w = .ok (.int .u8 ((sm (u % 100 * 2 + 1)).toNat : Int)) w := idx_smalls 9 t9 .u32 _ _ (by omega) (by omega)
  have hXb0 : ∀ w, (Instr.index 9 (.string Lib.smalls) (.int .u32 x0)).run Tryd.prog w = .ok (.int .u8 ((sm (u % 100 * 2)).toNat : Int)) w := idx_smalls 9 t9 .u32 _ _ (by omega) (by omega)
  have hlo0 : 0 ≤ x0 := by omega
  have hhi0 : x0 ≤ 198 := by omega
  clear hx0 hxe0
  go_region_o
  go_wp2
  go_end0
  have e := store2_world w blk off d 0 1 0 (sm (u % 100 * 2 + 1)) (sm (u % 100 * 2)) (by omega) (by omega)
  rw [putRow_self _ _ _ _ _ HH.out] at e
  exact ⟨rfl, 1, e⟩
-- printed below (gen_shtit.py)
/-- what lies in the row behind the call -/
def F3 (u : Nat) (d : Array UInt8) : Array UInt8 := ((d.setIfInBounds 2 (sm (u % 100 * 2 + 1))).setIfInBounds 1 (sm (u % 100 * 2))).setIfInBounds 0 (UInt8.ofNat (48 + u / 100))
set_option maxHeartbeats 12800000 in
set_option maxRecDepth 100000 in
theorem fmt3 (blk off cap u : Nat) (d : Array UInt8) (w : World) (hH : Holds ec w blk off d) (hd : d.size = 3) (hu : u < 1000000) :
    Calls Tryd.prog 68 #[.slice (some ⟨blk, off, none⟩) 3 cap, .int .u64 (u : Int)] w fun e w' =>
      e = .returned (.tuple #[]) ∧ ∃ n, w' = (putRow ec w blk off (F3 u d)).drewN n := by
  have t9 := Tryd.underlying9
  have mixed : Tryd.prog.follows Departure.mixedOrders = true := by kernel_rfl
  obtain ⟨G, hc, hf⟩ := fam hH
  rw [hd] at hc hf
  have HH := Lib.hid hH
  clear hH
  go_enter Tryd.func68, Tryd.ntmps68
  go_name_bytes SM hSM
  have eSM : SM = Lib.smalls := by rw [← hSM]; decide +kernel
  subst eSM
  clear hSM
  go_wp2
  refine wp_loop_rounds 1 ?_
  rw [rounds_succ]
  go_wp2
  go_name_slot 16 x0 hx0
  have hxe0 : x0 = ((u % 100 * 2 : Nat) : Int) := by omega
  have hXa0 : ∀ w, (Instr.index 9 (.string Lib.smalls) (.int .u32 (x0 + 1))).run Tryd.prog w = .ok (.int .u8 ((sm (u % 100 * 2 + 1)).toNat : Int)) w := idx_smalls 9 t9 .u32 _ _ (by omega) (by omega)
  have hXb0 : ∀ w, (Instr.index 9 (.string Lib.smalls) (.int .u32 x0)).run Tryd.prog w = .ok (.int .u8 ((sm (u % 100 * 2)).toNat : Int)) w := idx_smalls 9 t9 .u32 _ _ (by omega) (by omega)
  have hlo0 : 0 ≤ x0 := by omega
  have hhi0 : x0 ≤ 198 := by omega
  clear hx0 hxe0
  go_region_o
  go_wp2
  go_end0
  have e := store21_world w blk off d 0 2 1 (sm (u % 100 * 2 + 1)) (sm (u % 100 * 2)) ((48 + (u : Int) / 100) % 256) (u / 100) (by omega) (by omega) (by omega)
  rw [putRow_self _ _ _ _ _ HH.out] at e
  exact ⟨rfl, 1, e⟩
/-- what lies in the row behind the call -/
def F4 (u : Nat) (d : Array UInt8) : Array UInt8 := ((((d).setIfInBounds 3 (sm (u % 100 * 2 + 1))).setIfInBounds 2 (sm (u % 100 * 2))).setIfInBounds 1 (sm (u % 10000 / 100 * 2 + 1))).setIfInBounds 0 (sm (u % 10000 / 100 * 2))
set_option maxHeartbeats 12800000 in
set_option maxRecDepth 100000 in
theorem fmt4 (blk off cap u : Nat) (d : Array UInt8) (w : World) (hH : Holds ec w blk off d) (hd : d.size = 4) (hu : u < 1000000) :
    Calls Tryd.prog 68 #[.slice (some ⟨blk, off, none⟩) 4 cap, .int .u64 (u : Int)] w fun e w' =>
      e = .returned (.tuple #[]) ∧ ∃ n, w' = (putRow ec w blk off (F4 u d)).drewN n := by
  have t9 := Tryd.underlying9
  have mixed : Tryd.prog.follows Departure.mixedOrders = true := by kernel_rfl
  obtain ⟨G, hc, hf⟩ := fam hH
  rw [hd] at hc hf
  have HH := Lib.hid hH
  clear hH
  go_enter Tryd.func68, Tryd.ntmps68
  go_name_bytes SM hSM
  have eSM : SM = Lib.smalls := by rw [← hSM]; decide +kernel
  subst eSM
  clear hSM
  go_wp2
  refine wp_loop_rounds 1 ?_
  rw [rounds_succ]
  go_wp2
  go_name_slot 15 x0 hx0
  have hxe0 : x0 = ((u % 100 * 2 : Nat) : Int) := by omega
  have hXa0 : ∀ w, (Instr.index 9 (.string Lib.smalls) (.int .u32 (x0 + 1))).run Tryd.prog w = .ok (.int .u8 ((sm (u % 100 * 2 + 1)).toNat : Int)) w := idx_smalls 9 t9 .u32 _ _ (by omega) (by omega)
  have hXb0 : ∀ w, (Instr.index 9 (.string Lib.smalls) (.int .u32 x0)).run Tryd.prog w = .ok (.int .u8 ((sm (u % 100 * 2)).toNat : Int)) w := idx_smalls 9 t9 .u32 _ _ (by omega) (by omega)
  have hlo0 : 0 ≤ x0 := by omega
  have hhi0 : x0 ≤ 198 := by omega
  clear hx0 hxe0
  go_region_o
  go_wp2
  go_name_world W1 hW1
  have hw1 : W1 = (putRow ec w blk off (((d).setIfInBounds 3 (sm (u % 100 * 2 + 1))).setIfInBounds 2 (sm (u % 100 * 2)))).drewN 1 := by
    rw [← hW1]
    have e := store2_world w blk off d 0 3 2 (sm (u % 100 * 2 + 1)) (sm (u % 100 * 2)) (by omega) (by omega)
    rw [putRow_self _ _ _ _ _ HH.out] at e
    exact e
  clear hW1
  have hs1 : (((d).setIfInBounds 3 (sm (u % 100 * 2 + 1))).setIfInBounds 2 (sm (u % 100 * 2))).size = d.size := by simp
  have hH1 : Holds ec W1 blk off (((d).setIfInBounds 3 (sm (u % 100 * 2 + 1))).setIfInBounds 2 (sm (u % 100 * 2))) := by rw [hw1]; exact holds_putRow _ w blk off d _ HH.out hs1
  obtain ⟨G1, hc1, hf1⟩ := fam hH1
  rw [hs1, hd] at hc1 hf1
  have AW1 := Lib.hid hw1
  clear hw1 hH1 hc hf
  go_name_slot 14 x1 hx1
  have hxe1 : x1 = ((u % 10000 / 100 * 2 : Nat) : Int) := by omega
  have hXa1 : ∀ w, (Instr.index 9 (.string Lib.smalls) (.int .u32 (x1 + 1))).run Tryd.prog w = .ok (.int .u8 ((sm (u % 10000 / 100 * 2 + 1)).toNat : Int)) w := idx_smalls 9 t9 .u32 _ _ (by omega) (by omega)
  have hXb1 : ∀ w, (Instr.index 9 (.string Lib.smalls) (.int .u32 x1)).run Tryd.prog w = .ok (.int .u8 ((sm (u % 10000 / 100 * 2)).toNat : Int)) w := idx_smalls 9 t9 .u32 _ _ (by omega) (by omega)
  have hlo1 : 0 ≤ x1 := by omega
  have hhi1 : x1 ≤ 198 := by omega
  clear hx1 hxe1
  go_region_o
  go_wp2
  go_end0
  have e := store2_world w blk off (((d).setIfInBounds 3 (sm (u % 100 * 2 + 1))).setIfInBounds 2 (sm (u % 100 * 2))) 1 1 0 (sm (u % 10000 / 100 * 2 + 1)) (sm (u % 10000 / 100 * 2)) (by simp; omega) (by simp; omega)
  rw [← AW1.out] at e
  exact ⟨rfl, 2, e⟩
/-- what lies in the row behind the call -/
def F5 (u : Nat) (d : Array UInt8) : Array UInt8 := (((((d).setIfInBounds 4 (sm (u % 100 * 2 + 1))).setIfInBounds 3 (sm (u % 100 * 2))).setIfInBounds 2 (sm (u % 10000 / 100 * 2 + 1))).setIfInBounds 1 (sm (u % 10000 / 100 * 2))).setIfInBounds 0 (UInt8.ofNat (48 + u / 10000))
set_option maxHeartbeats 12800000 in
set_option maxRecDepth 100000 in
theorem fmt5 (blk off cap u : Nat) (d : Array UInt8) (w : World) (hH : Holds ec w blk off d) (hd : d.size = 5) (hu : u < 1000000) :
    Calls Tryd.prog 68 #[.slice (some ⟨blk, off, none⟩) 5 cap, .int .u64 (u : Int)] w fun e w' =>
      e = .returned (.tuple #[]) ∧ ∃ n, w' = (putRow ec w blk off (F5 u d)).drewN n := by
  have t9 := Tryd.underlying9
  have mixed : Tryd.prog.follows Departure.mixedOrders = true := by kernel_rfl
  obtain ⟨G, hc, hf⟩ := fam hH
  rw [hd] at hc hf
  have HH := Lib.hid hH
  clear hH
  go_enter Tryd.func68, Tryd.ntmps68
  go_name_bytes SM hSM
  have eSM : SM = Lib.smalls := by rw [← hSM]; decide +kernel
  subst eSM
  clear hSM
  go_wp2
  refine wp_loop_rounds 1 ?_
  rw [rounds_succ]
  go_wp2
  go_name_slot 15 x0 hx0
  have hxe0 : x0 = ((u % 100 * 2 : Nat) : Int) := by omega
  have hXa0 : ∀ w, (Instr.index 9 (.string Lib.smalls) (.int .u32 (x0 + 1))).run Tryd.prog w = .ok (.int .u8 ((sm (u % 100 * 2 + 1)).toNat : Int)) w := idx_smalls 9 t9 .u32 _ _ (by omega) (by omega)
  have hXb0 : ∀ w, (Instr.index 9 (.string Lib.smalls) (.int .u32 x0)).run Tryd.prog w = .ok (.int .u8 ((sm (u % 100 * 2)).toNat : Int)) w := idx_smalls 9 t9 .u32 _ _ (by omega) (by omega)
  have hlo0 : 0 ≤ x0 := by omega
  have hhi0 : x0 ≤ 198 := by omega
  clear hx0 hxe0
  go_region_o
  go_wp2
  go_name_world W1 hW1
  have hw1 : W1 = (putRow ec w blk off (((d).setIfInBounds 4 (sm (u % 100 * 2 + 1))).setIfInBounds 3 (sm (u % 100 * 2)))).drewN 1 := by
    rw [← hW1]
    have e := store2_world w blk off d 0 4 3 (sm (u % 100 * 2 + 1)) (sm (u % 100 * 2)) (by omega) (by omega)
    rw [putRow_self _ _ _ _ _ HH.out] at e
    exact e
  clear hW1
  have hs1 : (((d).setIfInBounds 4 (sm (u % 100 * 2 + 1))).setIfInBounds 3 (sm (u % 100 * 2))).size = d.size := by simp
  have hH1 : Holds ec W1 blk off (((d).setIfInBounds 4 (sm (u % 100 * 2 + 1))).setIfInBounds 3 (sm (u % 100 * 2))) := by rw [hw1]; exact holds_putRow _ w blk off d _ HH.out hs1
  obtain ⟨G1, hc1, hf1⟩ := fam hH1
  rw [hs1, hd] at hc1 hf1
  have AW1 := Lib.hid hw1
  clear hw1 hH1 hc hf
  go_name_slot 14 x1 hx1
  have hxe1 : x1 = ((u % 10000 / 100 * 2 : Nat) : Int) := by omega
  have hXa1 : ∀ w, (Instr.index 9 (.string Lib.smalls) (.int .u32 (x1 + 1))).run Tryd.prog w = .ok (.int .u8 ((sm (u % 10000 / 100 * 2 + 1)).toNat : Int)) w := idx_smalls 9 t9 .u32 _ _ (by omega) (by omega)
  have hXb1 : ∀ w, (Instr.index 9 (.string Lib.smalls) (.int .u32 x1)).run Tryd.prog w = .ok (.int .u8 ((sm (u % 10000 / 100 * 2)).toNat : Int)) w := idx_smalls 9 t9 .u32 _ _ (by omega) (by omega)
  have hlo1 : 0 ≤ x1 := by omega
  have hhi1 : x1 ≤ 198 := by omega
  clear hx1 hxe1
  go_region_o
  go_wp2
  go_end0
  have e := store21_world w blk off (((d).setIfInBounds 4 (sm (u % 100 * 2 + 1))).setIfInBounds 3 (sm (u % 100 * 2))) 1 2 1 (sm (u % 10000 / 100 * 2 + 1)) (sm (u % 10000 / 100 * 2)) (48 + (u : Int) / 10000) (u / 10000) (by omega) (by simp; omega) (by simp; omega)
  rw [← AW1.out] at e
  exact ⟨rfl, 2, e⟩
/-- what lies in the row behind the call -/
def F6 (u : Nat) (d : Array UInt8) : Array UInt8 := ((((((d).setIfInBounds 5 (sm (u % 100 * 2 + 1))).setIfInBounds 4 (sm (u % 100 * 2))).setIfInBounds 3 (sm (u % 10000 / 100 * 2 + 1))).setIfInBounds 2 (sm (u % 10000 / 100 * 2))).setIfInBounds 1 (sm (u / 10000 % 100 * 2 + 1))).setIfInBounds 0 (sm (u / 10000 % 100 * 2))
set_option maxHeartbeats 12800000 in
set_option maxRecDepth 100000 in
theorem fmt6 (blk off cap u : Nat) (d : Array UInt8) (w : World) (hH : Holds ec w blk off d) (hd : d.size = 6) (hu : u < 1000000) :
    Calls Tryd.prog 68 #[.slice (some ⟨blk, off, none⟩) 6 cap, .int .u64 (u : Int)] w fun e w' =>
      e = .returned (.tuple #[]) ∧ ∃ n, w' = (putRow ec w blk off (F6 u d)).drewN n := by
  have t9 := Tryd.underlying9
  have mixed : Tryd.prog.follows Departure.mixedOrders = true := by kernel_rfl
  obtain ⟨G, hc, hf⟩ := fam hH
  rw [hd] at hc hf
  have HH := Lib.hid hH
  clear hH
  go_enter Tryd.func68, Tryd.ntmps68
  go_name_bytes SM hSM
  have eSM : SM = Lib.smalls := by rw [← hSM]; decide +kernel
  subst eSM
  clear hSM
  go_wp2
  refine wp_loop_rounds 1 ?_
  rw [rounds_succ]
  go_wp2
  go_name_slot 15 x0 hx0
  have hxe0 : x0 = ((u % 100 * 2 : Nat) : Int) := by omega
  have hXa0 : ∀ w, (Instr.index 9 (.string Lib.smalls) (.int .u32 (x0 + 1))).run Tryd.prog w = .ok (.int .u8 ((sm (u % 100 * 2 + 1)).toNat : Int)) w := idx_smalls 9 t9 .u32 _ _ (by omega) (by omega)
  have hXb0 : ∀ w, (Instr.index 9 (.string Lib.smalls) (.int .u32 x0)).run Tryd.prog w = .ok (.int .u8 ((sm (u % 100 * 2)).toNat : Int)) w := idx_smalls 9 t9 .u32 _ _ (by omega) (by omega)
  have hlo0 : 0 ≤ x0 := by omega
  have hhi0 : x0 ≤ 198 := by omega
  clear hx0 hxe0
  go_region_o
  go_wp2
  go_name_world W1 hW1
  have hw1 : W1 = (putRow ec w blk off (((d).setIfInBounds 5 (sm (u % 100 * 2 + 1))).setIfInBounds 4 (sm (u % 100 * 2)))).drewN 1 := by
    rw [← hW1]
    have e := store2_world w blk off d 0 5 4 (sm (u % 100 * 2 + 1)) (sm (u % 100 * 2)) (by omega) (by omega)
    rw [putRow_self _ _ _ _ _ HH.out] at e
    exact e
  clear hW1
  have hs1 : (((d).setIfInBounds 5 (sm (u % 100 * 2 + 1))).setIfInBounds 4 (sm (u % 100 * 2))).size = d.size := by simp
  have hH1 : Holds ec W1 blk off (((d).setIfInBounds 5 (sm (u % 100 * 2 + 1))).setIfInBounds 4 (sm (u % 100 * 2))) := by rw [hw1]; exact holds_putRow _ w blk off d _ HH.out hs1
  obtain ⟨G1, hc1, hf1⟩ := fam hH1
  rw [hs1, hd] at hc1 hf1
  have AW1 := Lib.hid hw1
  clear hw1 hH1 hc hf
  go_name_slot 14 x1 hx1
  have hxe1 : x1 = ((u % 10000 / 100 * 2 : Nat) : Int) := by omega
  have hXa1 : ∀ w, (Instr.index 9 (.string Lib.smalls) (.int .u32 (x1 + 1))).run Tryd.prog w = .ok (.int .u8 ((sm (u % 10000 / 100 * 2 + 1)).toNat : Int)) w := idx_smalls 9 t9 .u32 _ _ (by omega) (by omega)
  have hXb1 : ∀ w, (Instr.index 9 (.string Lib.smalls) (.int .u32 x1)).run Tryd.prog w = .ok (.int .u8 ((sm (u % 10000 / 100 * 2)).toNat : Int)) w := idx_smalls 9 t9 .u32 _ _ (by omega) (by omega)
  have hlo1 : 0 ≤ x1 := by omega
  have hhi1 : x1 ≤ 198 := by omega
  clear hx1 hxe1
  go_region_o
  go_wp2
  go_name_world W2 hW2
  have hw2 : W2 = (putRow ec w blk off (((((d).setIfInBounds 5 (sm (u % 100 * 2 + 1))).setIfInBounds 4 (sm (u % 100 * 2))).setIfInBounds 3 (sm (u % 10000 / 100 * 2 + 1))).setIfInBounds 2 (sm (u % 10000 / 100 * 2)))).drewN 2 := by
    rw [← hW2]
    have e := store2_world w blk off (((d).setIfInBounds 5 (sm (u % 100 * 2 + 1))).setIfInBounds 4 (sm (u % 100 * 2))) 1 3 2 (sm (u % 10000 / 100 * 2 + 1)) (sm (u % 10000 / 100 * 2)) (by simp; omega) (by simp; omega)
    rw [← AW1.out] at e
    exact e
  clear hW2
  have hs2 : (((((d).setIfInBounds 5 (sm (u % 100 * 2 + 1))).setIfInBounds 4 (sm (u % 100 * 2))).setIfInBounds 3 (sm (u % 10000 / 100 * 2 + 1))).setIfInBounds 2 (sm (u % 10000 / 100 * 2))).size = d.size := by simp
  have hH2 : Holds ec W2 blk off (((((d).setIfInBounds 5 (sm (u % 100 * 2 + 1))).setIfInBounds 4 (sm (u % 100 * 2))).setIfInBounds 3 (sm (u % 10000 / 100 * 2 + 1))).setIfInBounds 2 (sm (u % 10000 / 100 * 2))) := by rw [hw2]; exact holds_putRow _ w blk off d _ HH.out hs2
  obtain ⟨G2, hc2, hf2⟩ := fam hH2
  rw [hs2, hd] at hc2 hf2
  have AW2 := Lib.hid hw2
  clear hw2 hH2 hc1 hf1
  go_name_slot 16 x2 hx2
  have hxe2 : x2 = ((u / 10000 % 100 * 2 : Nat) : Int) := by omega
  have hXa2 : ∀ w, (Instr.index 9 (.string Lib.smalls) (.int .u32 (x2 + 1))).run Tryd.prog w = .ok (.int .u8 ((sm (u / 10000 % 100 * 2 + 1)).toNat : Int)) w := idx_smalls 9 t9 .u32 _ _ (by omega) (by omega)
  have hXb2 : ∀ w, (Instr.index 9 (.string Lib.smalls) (.int .u32 x2)).run Tryd.prog w = .ok (.int .u8 ((sm (u / 10000 % 100 * 2)).toNat : Int)) w := idx_smalls 9 t9 .u32 _ _ (by omega) (by omega)
  have hlo2 : 0 ≤ x2 := by omega
  have hhi2 : x2 ≤ 198 := by omega
  clear hx2 hxe2
  go_region_o
  go_wp2
  go_end0
  have e := store2_world w blk off (((((d).setIfInBounds 5 (sm (u % 100 * 2 + 1))).setIfInBounds 4 (sm (u % 100 * 2))).setIfInBounds 3 (sm (u % 10000 / 100 * 2 + 1))).setIfInBounds 2 (sm (u % 10000 / 100 * 2))) 2 1 0 (sm (u / 10000 % 100 * 2 + 1)) (sm (u / 10000 % 100 * 2)) (by simp; omega) (by simp; omega)
  rw [← AW2.out] at e
  exact ⟨rfl, 3, e⟩
end Go.Proofs.YtinjlpodcabfaaaDoor.Itoa
