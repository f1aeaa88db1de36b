/- What cal's clock answers, proved by walking its text. (Written by wip/gen/gen_clock.py.) -/
import Derived.Test.YtiklakkkgmilnaaDoorCalDateB
set_option linter.unusedVariables false
set_option linter.unusedSimpArgs false
namespace Go.Proofs.YtiklakkkgmilnaaDoor.Ext
open Go.RowKit Go.Proofs.YtiklakkkgmilnaaDoorW.PrintWords Go.Proofs.YtiklakkkgmilnaaDoor.PCal Go.Proofs.YtiklakkkgmilnaaDoor.CalP Go.Proofs.YtiklakkkgmilnaaDoor.GC

abbrev T3 := Int × Bool × Int
def CB : List ByteArray := [⟨#[100, 100]⟩, ⟨#[100, 100, 100, 100]⟩, ⟨#[100, 100, 100, 100, 100, 100]⟩]
def CE : List ByteArray := [⟨#[100, 100]⟩, ⟨#[100, 100, 58, 100, 100]⟩, ⟨#[100, 100, 58, 100, 100, 58, 100, 100]⟩]
/-- what hours, minutes and seconds make; gap: how far their places lie apart -/
def clkR (a b c g : Int) : T3 :=
  if 24 < a then (0, false, 0) else if a = 24 ∧ 0 < b + c then (0, false, 0) else if 59 < b then (0, false, g) else if 59 < c then (0, false, 2 * g) else (a * 3600 + b * 60 + c, true, 0)
theorem clk_shape (L : List ByteArray) (hL : L.length = 3) (hh : ∀ h ∈ L, h.size ≤ 20) (t : ByteArray) (W : World) (g : Nat) (r1 r2 : Int) (hr : shp t L 0 0 = (r1, r2)) (hg : W.heap[g]? = some (.cells (L.map Value.string).toArray 9 (0, 0))) :
    Calls Tryd.prog 42 #[.string t, .slice (some ⟨g, 0, none⟩) 3 3] W fun e w' => e = .returned (.tuple #[.int .i64 r1, .int .i64 r2]) ∧ Below W.heap.size W w' := by
  have h := strs_of_block hg rfl (by omega)
  rw [hL] at h
  have := cal_shape.calls 100 t (some ⟨g, 0, none⟩) 3 L r1 r2 W (by rw [hL]; exact h) (by omega) (by rw [shape_eq 100 t L (by omega) hh (by omega), hr])
  rw [hL] at this
  exact this
theorem blk_one (w : World) (A B : Obj) : ((w.alloc A).alloc B).heap[w.heap.size + 1]? = some B := by
  have e : (w.alloc A).heap.size = w.heap.size + 1 := by simp
  rw [← e]; exact blk_new _ _
set_option maxRecDepth 100000 in
set_option maxHeartbeats 4000000 in
theorem clk_0_0 (t : ByteArray) (w : World) (hs : t.size = 2) (hsh : shp t CB 0 0 = (0, 0)) (hf : fit t ⟨#[100, 100]⟩ = 2) :
    Calls Tryd.prog 64 #[.string t, .bool false] w fun e w' => e = .returned (.tuple #[.int .i64 (clkR (nmv t 0 2) 0 0 2).1, .bool (clkR (nmv t 0 2) 0 0 2).2.1, .int .i64 (clkR (nmv t 0 2) 0 0 2).2.2]) ∧ Below w.heap.size w w' := by
  have dg0 := dig_of hf 0 2 (by decide) (by decide)
  have HN0 := Lib.hid (num_call t 0 2 (by decide) (by omega) (by decide) dg0)
  have bd0 := nmv_bd t 0 2 (fun j j1 j2 => dg0 j j1 j2)
  have bx0 : 0 ≤ nmv t 0 2 ∧ nmv t 0 2 ≤ 99 := by omega
  have hl : 2 ≤ t.size := by omega
  have hu : t.size ≤ 2 := by omega
  have HS := Lib.hid (clk_shape CB rfl (by decide) t (w.alloc (.cells (CB.map Value.string).toArray 9)) (w.heap.size) 0 0 hsh (blk_new w _))
  clear hs hsh hf dg0 bd0
  generalize nmv t 0 2 = a at *
  obtain ⟨p0, q0⟩ := bx0
  obtain ⟨R, hR⟩ : ∃ R, clkR a 0 0 2 = R := ⟨_, rfl⟩
  have HR := Lib.hid hR
  rw [hR]
  clear hR
  go_enter Tryd.func64, Tryd.ntmps64
  go_wp2_with (go_at_call 42; (refine HS.out.mono ?_); rintro e w1 ⟨rfl, hb1⟩; have HX1 := Lib.hid (((Below.refl _ w).alloc (Nat.le_refl _) _).trans (hb1.mono (by first | omega | (simp; done) | (simp; omega)))); clear hb1)
  refine wp_loop_rounds 2 ?_
  rw [rounds_succ]
  go_wp2_with (go_at_call 43; (with_reducible refine (HN0.out _).mono ?_); rintro e wn0 ⟨rfl, hb⟩; have hz0 : w1.heap.size < wn0.heap.size := (by have := hb.size; simp at this; omega); have hV : wn0.heap[w1.heap.size]? = some (.cells #[.int .i64 0, .int .i64 0, .int .i64 0] 73 (0, 0)) := (hb.block _ (by simp)).trans (blk_new w1 _); have HX0n := Lib.hid ((HX1.out.alloc HX1.out.size _).trans (hb.mono (by have := HX1.out.size; simp; omega))); have v0_0 : wn0.cell? ⟨w1.heap.size, 0, none⟩ = some (.int .i64 0) := (blk_cell hV 0).trans rfl; have f0_0 := blk_frozen hV 0; have v0_1 : wn0.cell? ⟨w1.heap.size, 1, none⟩ = some (.int .i64 0) := (blk_cell hV 1).trans rfl; have f0_1 := blk_frozen hV 1; have v0_2 : wn0.cell? ⟨w1.heap.size, 2, none⟩ = some (.int .i64 0) := (blk_cell hV 2).trans rfl; have f0_2 := blk_frozen hV 2; have HV0 := Lib.hid hV; clear hb hV)
  rw [rounds_succ]
  go_wp2
  all_goals
    go_ret3
    refine ⟨?_, below_set HX0n.out HX1.out.size⟩
    rw [← HR.out]
    clear HR
    unfold clkR
    repeat (first | rw [if_pos (by omega)] | rw [if_neg (by omega)])
    first | done | rfl | (congr 3 <;> omega) | (simp; done) | (simp; omega)
set_option maxRecDepth 100000 in
set_option maxHeartbeats 4000000 in
theorem clk_0_1 (t : ByteArray) (w : World) (hs : t.size = 4) (hsh : shp t CB 0 0 = (1, 0)) (hf : fit t ⟨#[100, 100, 100, 100]⟩ = 4) :
    Calls Tryd.prog 64 #[.string t, .bool false] w fun e w' => e = .returned (.tuple #[.int .i64 (clkR (nmv t 0 2) (nmv t 2 2) 0 2).1, .bool (clkR (nmv t 0 2) (nmv t 2 2) 0 2).2.1, .int .i64 (clkR (nmv t 0 2) (nmv t 2 2) 0 2).2.2]) ∧ Below w.heap.size w w' := by
  have dg0 := dig_of hf 0 2 (by decide) (by decide)
  have HN0 := Lib.hid (num_call t 0 2 (by decide) (by omega) (by decide) dg0)
  have bd0 := nmv_bd t 0 2 (fun j j1 j2 => dg0 j j1 j2)
  have bx0 : 0 ≤ nmv t 0 2 ∧ nmv t 0 2 ≤ 99 := by omega
  have dg1 := dig_of hf 2 4 (by decide) (by decide)
  have HN1 := Lib.hid (num_call t 2 4 (by decide) (by omega) (by decide) dg1)
  have bd1 := nmv_bd t 2 2 (fun j j1 j2 => dg1 j j1 j2)
  have bx1 : 0 ≤ nmv t 2 2 ∧ nmv t 2 2 ≤ 99 := by omega
  have hl : 4 ≤ t.size := by omega
  have hu : t.size ≤ 4 := by omega
  have HS := Lib.hid (clk_shape CB rfl (by decide) t (w.alloc (.cells (CB.map Value.string).toArray 9)) (w.heap.size) 1 0 hsh (blk_new w _))
  clear hs hsh hf dg0 bd0 dg1 bd1
  generalize nmv t 0 2 = a at *
  generalize nmv t 2 2 = b at *
  obtain ⟨p0, q0⟩ := bx0
  obtain ⟨p1, q1⟩ := bx1
  obtain ⟨R, hR⟩ : ∃ R, clkR a b 0 2 = R := ⟨_, rfl⟩
  have HR := Lib.hid hR
  rw [hR]
  clear hR
  go_enter Tryd.func64, Tryd.ntmps64
  go_wp2_with (go_at_call 42; (refine HS.out.mono ?_); rintro e w1 ⟨rfl, hb1⟩; have HX1 := Lib.hid (((Below.refl _ w).alloc (Nat.le_refl _) _).trans (hb1.mono (by first | omega | (simp; done) | (simp; omega)))); clear hb1)
  refine wp_loop_rounds 3 ?_
  rw [rounds_succ]
  go_wp2_with (go_at_call 43; (with_reducible refine (HN0.out _).mono ?_); rintro e wn0 ⟨rfl, hb⟩; have hz0 : w1.heap.size < wn0.heap.size := (by have := hb.size; simp at this; omega); have hV : wn0.heap[w1.heap.size]? = some (.cells #[.int .i64 0, .int .i64 0, .int .i64 0] 73 (0, 0)) := (hb.block _ (by simp)).trans (blk_new w1 _); have HX0n := Lib.hid ((HX1.out.alloc HX1.out.size _).trans (hb.mono (by have := HX1.out.size; simp; omega))); have v0_0 : wn0.cell? ⟨w1.heap.size, 0, none⟩ = some (.int .i64 0) := (blk_cell hV 0).trans rfl; have f0_0 := blk_frozen hV 0; have v0_1 : wn0.cell? ⟨w1.heap.size, 1, none⟩ = some (.int .i64 0) := (blk_cell hV 1).trans rfl; have f0_1 := blk_frozen hV 1; have v0_2 : wn0.cell? ⟨w1.heap.size, 2, none⟩ = some (.int .i64 0) := (blk_cell hV 2).trans rfl; have f0_2 := blk_frozen hV 2; have HV0 := Lib.hid hV; clear hb hV)
  rw [rounds_succ]
  go_wp2_with (go_at_call 43; (with_reducible refine (HN1.out _).mono ?_); rintro e wn1 ⟨rfl, hb⟩; have hz1 : w1.heap.size < wn1.heap.size := (by have := hb.size; simp at this; omega); have hV : wn1.heap[w1.heap.size]? = some (.cells #[.int .i64 a, .int .i64 0, .int .i64 0] 73 (0, 0)) := ((hb.block _ (by simp; omega)).trans (blk_set HV0.out _ _)).trans rfl; have HX1n := Lib.hid ((below_set HX0n.out HX1.out.size (j := 0) (v := .int .i64 a)).trans (hb.mono (by have := HX0n.out.size; simp; omega))); have v1_0 : wn1.cell? ⟨w1.heap.size, 0, none⟩ = some (.int .i64 a) := (blk_cell hV 0).trans rfl; have f1_0 := blk_frozen hV 0; have v1_1 : wn1.cell? ⟨w1.heap.size, 1, none⟩ = some (.int .i64 0) := (blk_cell hV 1).trans rfl; have f1_1 := blk_frozen hV 1; have v1_2 : wn1.cell? ⟨w1.heap.size, 2, none⟩ = some (.int .i64 0) := (blk_cell hV 2).trans rfl; have f1_2 := blk_frozen hV 2; have HV1 := Lib.hid hV; clear hb hV)
  rw [rounds_succ]
  go_wp2
  all_goals
    go_ret3
    refine ⟨?_, below_set HX1n.out HX1.out.size⟩
    rw [← HR.out]
    clear HR
    unfold clkR
    repeat (first | rw [if_pos (by omega)] | rw [if_neg (by omega)])
    first | done | rfl | (congr 3 <;> omega) | (simp; done) | (simp; omega)
set_option maxRecDepth 100000 in
set_option maxHeartbeats 4000000 in
theorem clk_0_2 (t : ByteArray) (w : World) (hs : t.size = 6) (hsh : shp t CB 0 0 = (2, 0)) (hf : fit t ⟨#[100, 100, 100, 100, 100, 100]⟩ = 6) :
    Calls Tryd.prog 64 #[.string t, .bool false] w fun e w' => e = .returned (.tuple #[.int .i64 (clkR (nmv t 0 2) (nmv t 2 2) (nmv t 4 2) 2).1, .bool (clkR (nmv t 0 2) (nmv t 2 2) (nmv t 4 2) 2).2.1, .int .i64 (clkR (nmv t 0 2) (nmv t 2 2) (nmv t 4 2) 2).2.2]) ∧ Below w.heap.size w w' := by
  have dg0 := dig_of hf 0 2 (by decide) (by decide)
  have HN0 := Lib.hid (num_call t 0 2 (by decide) (by omega) (by decide) dg0)
  have bd0 := nmv_bd t 0 2 (fun j j1 j2 => dg0 j j1 j2)
  have bx0 : 0 ≤ nmv t 0 2 ∧ nmv t 0 2 ≤ 99 := by omega
  have dg1 := dig_of hf 2 4 (by decide) (by decide)
  have HN1 := Lib.hid (num_call t 2 4 (by decide) (by omega) (by decide) dg1)
  have bd1 := nmv_bd t 2 2 (fun j j1 j2 => dg1 j j1 j2)
  have bx1 : 0 ≤ nmv t 2 2 ∧ nmv t 2 2 ≤ 99 := by omega
  have dg2 := dig_of hf 4 6 (by decide) (by decide)
  have HN2 := Lib.hid (num_call t 4 6 (by decide) (by omega) (by decide) dg2)
  have bd2 := nmv_bd t 4 2 (fun j j1 j2 => dg2 j j1 j2)
  have bx2 : 0 ≤ nmv t 4 2 ∧ nmv t 4 2 ≤ 99 := by omega
  have hl : 6 ≤ t.size := by omega
  have hu : t.size ≤ 6 := by omega
  have HS := Lib.hid (clk_shape CB rfl (by decide) t (w.alloc (.cells (CB.map Value.string).toArray 9)) (w.heap.size) 2 0 hsh (blk_new w _))
  clear hs hsh hf dg0 bd0 dg1 bd1 dg2 bd2
  generalize nmv t 0 2 = a at *
  generalize nmv t 2 2 = b at *
  generalize nmv t 4 2 = c at *
  obtain ⟨p0, q0⟩ := bx0
  obtain ⟨p1, q1⟩ := bx1
  obtain ⟨p2, q2⟩ := bx2
  obtain ⟨R, hR⟩ : ∃ R, clkR a b c 2 = R := ⟨_, rfl⟩
  have HR := Lib.hid hR
  rw [hR]
  clear hR
  go_enter Tryd.func64, Tryd.ntmps64
  go_wp2_with (go_at_call 42; (refine HS.out.mono ?_); rintro e w1 ⟨rfl, hb1⟩; have HX1 := Lib.hid (((Below.refl _ w).alloc (Nat.le_refl _) _).trans (hb1.mono (by first | omega | (simp; done) | (simp; omega)))); clear hb1)
  refine wp_loop_rounds 4 ?_
  rw [rounds_succ]
  go_wp2_with (go_at_call 43; (with_reducible refine (HN0.out _).mono ?_); rintro e wn0 ⟨rfl, hb⟩; have hz0 : w1.heap.size < wn0.heap.size := (by have := hb.size; simp at this; omega); have hV : wn0.heap[w1.heap.size]? = some (.cells #[.int .i64 0, .int .i64 0, .int .i64 0] 73 (0, 0)) := (hb.block _ (by simp)).trans (blk_new w1 _); have HX0n := Lib.hid ((HX1.out.alloc HX1.out.size _).trans (hb.mono (by have := HX1.out.size; simp; omega))); have v0_0 : wn0.cell? ⟨w1.heap.size, 0, none⟩ = some (.int .i64 0) := (blk_cell hV 0).trans rfl; have f0_0 := blk_frozen hV 0; have v0_1 : wn0.cell? ⟨w1.heap.size, 1, none⟩ = some (.int .i64 0) := (blk_cell hV 1).trans rfl; have f0_1 := blk_frozen hV 1; have v0_2 : wn0.cell? ⟨w1.heap.size, 2, none⟩ = some (.int .i64 0) := (blk_cell hV 2).trans rfl; have f0_2 := blk_frozen hV 2; have HV0 := Lib.hid hV; clear hb hV)
  rw [rounds_succ]
  go_wp2_with (go_at_call 43; (with_reducible refine (HN1.out _).mono ?_); rintro e wn1 ⟨rfl, hb⟩; have hz1 : w1.heap.size < wn1.heap.size := (by have := hb.size; simp at this; omega); have hV : wn1.heap[w1.heap.size]? = some (.cells #[.int .i64 a, .int .i64 0, .int .i64 0] 73 (0, 0)) := ((hb.block _ (by simp; omega)).trans (blk_set HV0.out _ _)).trans rfl; have HX1n := Lib.hid ((below_set HX0n.out HX1.out.size (j := 0) (v := .int .i64 a)).trans (hb.mono (by have := HX0n.out.size; simp; omega))); have v1_0 : wn1.cell? ⟨w1.heap.size, 0, none⟩ = some (.int .i64 a) := (blk_cell hV 0).trans rfl; have f1_0 := blk_frozen hV 0; have v1_1 : wn1.cell? ⟨w1.heap.size, 1, none⟩ = some (.int .i64 0) := (blk_cell hV 1).trans rfl; have f1_1 := blk_frozen hV 1; have v1_2 : wn1.cell? ⟨w1.heap.size, 2, none⟩ = some (.int .i64 0) := (blk_cell hV 2).trans rfl; have f1_2 := blk_frozen hV 2; have HV1 := Lib.hid hV; clear hb hV)
  rw [rounds_succ]
  go_wp2_with (go_at_call 43; (with_reducible refine (HN2.out _).mono ?_); rintro e wn2 ⟨rfl, hb⟩; have hz2 : w1.heap.size < wn2.heap.size := (by have := hb.size; simp at this; omega); have hV : wn2.heap[w1.heap.size]? = some (.cells #[.int .i64 a, .int .i64 b, .int .i64 0] 73 (0, 0)) := ((hb.block _ (by simp; omega)).trans (blk_set HV1.out _ _)).trans rfl; have HX2n := Lib.hid ((below_set HX1n.out HX1.out.size (j := 1) (v := .int .i64 b)).trans (hb.mono (by have := HX1n.out.size; simp; omega))); have v2_0 : wn2.cell? ⟨w1.heap.size, 0, none⟩ = some (.int .i64 a) := (blk_cell hV 0).trans rfl; have f2_0 := blk_frozen hV 0; have v2_1 : wn2.cell? ⟨w1.heap.size, 1, none⟩ = some (.int .i64 b) := (blk_cell hV 1).trans rfl; have f2_1 := blk_frozen hV 1; have v2_2 : wn2.cell? ⟨w1.heap.size, 2, none⟩ = some (.int .i64 0) := (blk_cell hV 2).trans rfl; have f2_2 := blk_frozen hV 2; have HV2 := Lib.hid hV; clear hb hV)
  rw [rounds_succ]
  go_wp2
  all_goals
    go_ret3
    refine ⟨?_, below_set HX2n.out HX1.out.size⟩
    rw [← HR.out]
    clear HR
    unfold clkR
    repeat (first | rw [if_pos (by omega)] | rw [if_neg (by omega)])
    first | done | rfl | (congr 3 <;> omega) | (simp; done) | (simp; omega)
set_option maxRecDepth 100000 in
set_option maxHeartbeats 4000000 in
theorem clk_1_0 (t : ByteArray) (w : World) (hs : t.size = 2) (hsh : shp t CE 0 0 = (0, 0)) (hf : fit t ⟨#[100, 100]⟩ = 2) :
    Calls Tryd.prog 64 #[.string t, .bool true] w fun e w' => e = .returned (.tuple #[.int .i64 (clkR (nmv t 0 2) 0 0 3).1, .bool (clkR (nmv t 0 2) 0 0 3).2.1, .int .i64 (clkR (nmv t 0 2) 0 0 3).2.2]) ∧ Below w.heap.size w w' := by
  have dg0 := dig_of hf 0 2 (by decide) (by decide)
  have HN0 := Lib.hid (num_call t 0 2 (by decide) (by omega) (by decide) dg0)
  have bd0 := nmv_bd t 0 2 (fun j j1 j2 => dg0 j j1 j2)
  have bx0 : 0 ≤ nmv t 0 2 ∧ nmv t 0 2 ≤ 99 := by omega
  have hl : 2 ≤ t.size := by omega
  have hu : t.size ≤ 2 := by omega
  have HS := Lib.hid (clk_shape CE rfl (by decide) t ((w.alloc (.cells (CB.map Value.string).toArray 9)).alloc (.cells (CE.map Value.string).toArray 9)) (w.heap.size + 1) 0 0 hsh (blk_one w _ _))
  clear hs hsh hf dg0 bd0
  generalize nmv t 0 2 = a at *
  obtain ⟨p0, q0⟩ := bx0
  obtain ⟨R, hR⟩ : ∃ R, clkR a 0 0 3 = R := ⟨_, rfl⟩
  have HR := Lib.hid hR
  rw [hR]
  clear hR
  go_enter Tryd.func64, Tryd.ntmps64
  go_wp2_with (go_at_call 42; (refine HS.out.mono ?_); rintro e w1 ⟨rfl, hb1⟩; have HX1 := Lib.hid ((((Below.refl _ w).alloc (Nat.le_refl _) _).alloc (by simp) _).trans (hb1.mono (by first | omega | (simp; done) | (simp; omega)))); clear hb1)
  refine wp_loop_rounds 2 ?_
  rw [rounds_succ]
  go_wp2_with (go_at_call 43; (with_reducible refine (HN0.out _).mono ?_); rintro e wn0 ⟨rfl, hb⟩; have hz0 : w1.heap.size < wn0.heap.size := (by have := hb.size; simp at this; omega); have hV : wn0.heap[w1.heap.size]? = some (.cells #[.int .i64 0, .int .i64 0, .int .i64 0] 73 (0, 0)) := (hb.block _ (by simp)).trans (blk_new w1 _); have HX0n := Lib.hid ((HX1.out.alloc HX1.out.size _).trans (hb.mono (by have := HX1.out.size; simp; omega))); have v0_0 : wn0.cell? ⟨w1.heap.size, 0, none⟩ = some (.int .i64 0) := (blk_cell hV 0).trans rfl; have f0_0 := blk_frozen hV 0; have v0_1 : wn0.cell? ⟨w1.heap.size, 1, none⟩ = some (.int .i64 0) := (blk_cell hV 1).trans rfl; have f0_1 := blk_frozen hV 1; have v0_2 : wn0.cell? ⟨w1.heap.size, 2, none⟩ = some (.int .i64 0) := (blk_cell hV 2).trans rfl; have f0_2 := blk_frozen hV 2; have HV0 := Lib.hid hV; clear hb hV)
  rw [rounds_succ]
  go_wp2
  all_goals
    go_ret3
    refine ⟨?_, below_set HX0n.out HX1.out.size⟩
    rw [← HR.out]
    clear HR
    unfold clkR
    repeat (first | rw [if_pos (by omega)] | rw [if_neg (by omega)])
    first | done | rfl | (congr 3 <;> omega) | (simp; done) | (simp; omega)
set_option maxRecDepth 100000 in
set_option maxHeartbeats 4000000 in
theorem clk_1_1 (t : ByteArray) (w : World) (hs : t.size = 5) (hsh : shp t CE 0 0 = (1, 0)) (hf : fit t ⟨#[100, 100, 58, 100, 100]⟩ = 5) :
    Calls Tryd.prog 64 #[.string t, .bool true] w fun e w' => e = .returned (.tuple #[.int .i64 (clkR (nmv t 0 2) (nmv t 3 2) 0 3).1, .bool (clkR (nmv t 0 2) (nmv t 3 2) 0 3).2.1, .int .i64 (clkR (nmv t 0 2) (nmv t 3 2) 0 3).2.2]) ∧ Below w.heap.size w w' := by
  have dg0 := dig_of hf 0 2 (by decide) (by decide)
  have HN0 := Lib.hid (num_call t 0 2 (by decide) (by omega) (by decide) dg0)
  have bd0 := nmv_bd t 0 2 (fun j j1 j2 => dg0 j j1 j2)
  have bx0 : 0 ≤ nmv t 0 2 ∧ nmv t 0 2 ≤ 99 := by omega
  have dg1 := dig_of hf 3 5 (by decide) (by decide)
  have HN1 := Lib.hid (num_call t 3 5 (by decide) (by omega) (by decide) dg1)
  have bd1 := nmv_bd t 3 2 (fun j j1 j2 => dg1 j j1 j2)
  have bx1 : 0 ≤ nmv t 3 2 ∧ nmv t 3 2 ≤ 99 := by omega
  have hl : 5 ≤ t.size := by omega
  have hu : t.size ≤ 5 := by omega
  have HS := Lib.hid (clk_shape CE rfl (by decide) t ((w.alloc (.cells (CB.map Value.string).toArray 9)).alloc (.cells (CE.map Value.string).toArray 9)) (w.heap.size + 1) 1 0 hsh (blk_one w _ _))
  clear hs hsh hf dg0 bd0 dg1 bd1
  generalize nmv t 0 2 = a at *
  generalize nmv t 3 2 = b at *
  obtain ⟨p0, q0⟩ := bx0
  obtain ⟨p1, q1⟩ := bx1
  obtain ⟨R, hR⟩ : ∃ R, clkR a b 0 3 = R := ⟨_, rfl⟩
  have HR := Lib.hid hR
  rw [hR]
  clear hR
  go_enter Tryd.func64, Tryd.ntmps64
  go_wp2_with (go_at_call 42; (refine HS.out.mono ?_); rintro e w1 ⟨rfl, hb1⟩; have HX1 := Lib.hid ((((Below.refl _ w).alloc (Nat.le_refl _) _).alloc (by simp) _).trans (hb1.mono (by first | omega | (simp; done) | (simp; omega)))); clear hb1)
  refine wp_loop_rounds 3 ?_
  rw [rounds_succ]
  go_wp2_with (go_at_call 43; (with_reducible refine (HN0.out _).mono ?_); rintro e wn0 ⟨rfl, hb⟩; have hz0 : w1.heap.size < wn0.heap.size := (by have := hb.size; simp at this; omega); have hV : wn0.heap[w1.heap.size]? = some (.cells #[.int .i64 0, .int .i64 0, .int .i64 0] 73 (0, 0)) := (hb.block _ (by simp)).trans (blk_new w1 _); have HX0n := Lib.hid ((HX1.out.alloc HX1.out.size _).trans (hb.mono (by have := HX1.out.size; simp; omega))); have v0_0 : wn0.cell? ⟨w1.heap.size, 0, none⟩ = some (.int .i64 0) := (blk_cell hV 0).trans rfl; have f0_0 := blk_frozen hV 0; have v0_1 : wn0.cell? ⟨w1.heap.size, 1, none⟩ = some (.int .i64 0) := (blk_cell hV 1).trans rfl; have f0_1 := blk_frozen hV 1; have v0_2 : wn0.cell? ⟨w1.heap.size, 2, none⟩ = some (.int .i64 0) := (blk_cell hV 2).trans rfl; have f0_2 := blk_frozen hV 2; have HV0 := Lib.hid hV; clear hb hV)
  rw [rounds_succ]
  go_wp2_with (go_at_call 43; (with_reducible refine (HN1.out _).mono ?_); rintro e wn1 ⟨rfl, hb⟩; have hz1 : w1.heap.size < wn1.heap.size := (by have := hb.size; simp at this; omega); have hV : wn1.heap[w1.heap.size]? = some (.cells #[.int .i64 a, .int .i64 0, .int .i64 0] 73 (0, 0)) := ((hb.block _ (by simp; omega)).trans (blk_set HV0.out _ _)).trans rfl; have HX1n := Lib.hid ((below_set HX0n.out HX1.out.size (j := 0) (v := .int .i64 a)).trans (hb.mono (by have := HX0n.out.size; simp; omega))); have v1_0 : wn1.cell? ⟨w1.heap.size, 0, none⟩ = some (.int .i64 a) := (blk_cell hV 0).trans rfl; have f1_0 := blk_frozen hV 0; have v1_1 : wn1.cell? ⟨w1.heap.size, 1, none⟩ = some (.int .i64 0) := (blk_cell hV 1).trans rfl; have f1_1 := blk_frozen hV 1; have v1_2 : wn1.cell? ⟨w1.heap.size, 2, none⟩ = some (.int .i64 0) := (blk_cell hV 2).trans rfl; have f1_2 := blk_frozen hV 2; have HV1 := Lib.hid hV; clear hb hV)
  rw [rounds_succ]
  go_wp2
  all_goals
    go_ret3
    refine ⟨?_, below_set HX1n.out HX1.out.size⟩
    rw [← HR.out]
    clear HR
    unfold clkR
    repeat (first | rw [if_pos (by omega)] | rw [if_neg (by omega)])
    first | done | rfl | (congr 3 <;> omega) | (simp; done) | (simp; omega)
set_option maxRecDepth 100000 in
set_option maxHeartbeats 4000000 in
theorem clk_1_2 (t : ByteArray) (w : World) (hs : t.size = 8) (hsh : shp t CE 0 0 = (2, 0)) (hf : fit t ⟨#[100, 100, 58, 100, 100, 58, 100, 100]⟩ = 8) :
    Calls Tryd.prog 64 #[.string t, .bool true] w fun e w' => e = .returned (.tuple #[.int .i64 (clkR (nmv t 0 2) (nmv t 3 2) (nmv t 6 2) 3).1, .bool (clkR (nmv t 0 2) (nmv t 3 2) (nmv t 6 2) 3).2.1, .int .i64 (clkR (nmv t 0 2) (nmv t 3 2) (nmv t 6 2) 3).2.2]) ∧ Below w.heap.size w w' := by
  have dg0 := dig_of hf 0 2 (by decide) (by decide)
  have HN0 := Lib.hid (num_call t 0 2 (by decide) (by omega) (by decide) dg0)
  have bd0 := nmv_bd t 0 2 (fun j j1 j2 => dg0 j j1 j2)
  have bx0 : 0 ≤ nmv t 0 2 ∧ nmv t 0 2 ≤ 99 := by omega
  have dg1 := dig_of hf 3 5 (by decide) (by decide)
  have HN1 := Lib.hid (num_call t 3 5 (by decide) (by omega) (by decide) dg1)
  have bd1 := nmv_bd t 3 2 (fun j j1 j2 => dg1 j j1 j2)
  have bx1 : 0 ≤ nmv t 3 2 ∧ nmv t 3 2 ≤ 99 := by omega
  have dg2 := dig_of hf 6 8 (by decide) (by decide)
  have HN2 := Lib.hid (num_call t 6 8 (by decide) (by omega) (by decide) dg2)
  have bd2 := nmv_bd t 6 2 (fun j j1 j2 => dg2 j j1 j2)
  have bx2 : 0 ≤ nmv t 6 2 ∧ nmv t 6 2 ≤ 99 := by omega
  have hl : 8 ≤ t.size := by omega
  have hu : t.size ≤ 8 := by omega
  have HS := Lib.hid (clk_shape CE rfl (by decide) t ((w.alloc (.cells (CB.map Value.string).toArray 9)).alloc (.cells (CE.map Value.string).toArray 9)) (w.heap.size + 1) 2 0 hsh (blk_one w _ _))
  clear hs hsh hf dg0 bd0 dg1 bd1 dg2 bd2
  generalize nmv t 0 2 = a at *
  generalize nmv t 3 2 = b at *
  generalize nmv t 6 2 = c at *
  obtain ⟨p0, q0⟩ := bx0
  obtain ⟨p1, q1⟩ := bx1
  obtain ⟨p2, q2⟩ := bx2
  obtain ⟨R, hR⟩ : ∃ R, clkR a b c 3 = R := ⟨_, rfl⟩
  have HR := Lib.hid hR
  rw [hR]
  clear hR
  go_enter Tryd.func64, Tryd.ntmps64
  go_wp2_with (go_at_call 42; (refine HS.out.mono ?_); rintro e w1 ⟨rfl, hb1⟩; have HX1 := Lib.hid ((((Below.refl _ w).alloc (Nat.le_refl _) _).alloc (by simp) _).trans (hb1.mono (by first | omega | (simp; done) | (simp; omega)))); clear hb1)
  refine wp_loop_rounds 4 ?_
  rw [rounds_succ]
  go_wp2_with (go_at_call 43; (with_reducible refine (HN0.out _).mono ?_); rintro e wn0 ⟨rfl, hb⟩; have hz0 : w1.heap.size < wn0.heap.size := (by have := hb.size; simp at this; omega); have hV : wn0.heap[w1.heap.size]? = some (.cells #[.int .i64 0, .int .i64 0, .int .i64 0] 73 (0, 0)) := (hb.block _ (by simp)).trans (blk_new w1 _); have HX0n := Lib.hid ((HX1.out.alloc HX1.out.size _).trans (hb.mono (by have := HX1.out.size; simp; omega))); have v0_0 : wn0.cell? ⟨w1.heap.size, 0, none⟩ = some (.int .i64 0) := (blk_cell hV 0).trans rfl; have f0_0 := blk_frozen hV 0; have v0_1 : wn0.cell? ⟨w1.heap.size, 1, none⟩ = some (.int .i64 0) := (blk_cell hV 1).trans rfl; have f0_1 := blk_frozen hV 1; have v0_2 : wn0.cell? ⟨w1.heap.size, 2, none⟩ = some (.int .i64 0) := (blk_cell hV 2).trans rfl; have f0_2 := blk_frozen hV 2; have HV0 := Lib.hid hV; clear hb hV)
  rw [rounds_succ]
  go_wp2_with (go_at_call 43; (with_reducible refine (HN1.out _).mono ?_); rintro e wn1 ⟨rfl, hb⟩; have hz1 : w1.heap.size < wn1.heap.size := (by have := hb.size; simp at this; omega); have hV : wn1.heap[w1.heap.size]? = some (.cells #[.int .i64 a, .int .i64 0, .int .i64 0] 73 (0, 0)) := ((hb.block _ (by simp; omega)).trans (blk_set HV0.out _ _)).trans rfl; have HX1n := Lib.hid ((below_set HX0n.out HX1.out.size (j := 0) (v := .int .i64 a)).trans (hb.mono (by have := HX0n.out.size; simp; omega))); have v1_0 : wn1.cell? ⟨w1.heap.size, 0, none⟩ = some (.int .i64 a) := (blk_cell hV 0).trans rfl; have f1_0 := blk_frozen hV 0; have v1_1 : wn1.cell? ⟨w1.heap.size, 1, none⟩ = some (.int .i64 0) := (blk_cell hV 1).trans rfl; have f1_1 := blk_frozen hV 1; have v1_2 : wn1.cell? ⟨w1.heap.size, 2, none⟩ = some (.int .i64 0) := (blk_cell hV 2).trans rfl; have f1_2 := blk_frozen hV 2; have HV1 := Lib.hid hV; clear hb hV)
  rw [rounds_succ]
  go_wp2_with (go_at_call 43; (with_reducible refine (HN2.out _).mono ?_); rintro e wn2 ⟨rfl, hb⟩; have hz2 : w1.heap.size < wn2.heap.size := (by have := hb.size; simp at this; omega); have hV : wn2.heap[w1.heap.size]? = some (.cells #[.int .i64 a, .int .i64 b, .int .i64 0] 73 (0, 0)) := ((hb.block _ (by simp; omega)).trans (blk_set HV1.out _ _)).trans rfl; have HX2n := Lib.hid ((below_set HX1n.out HX1.out.size (j := 1) (v := .int .i64 b)).trans (hb.mono (by have := HX1n.out.size; simp; omega))); have v2_0 : wn2.cell? ⟨w1.heap.size, 0, none⟩ = some (.int .i64 a) := (blk_cell hV 0).trans rfl; have f2_0 := blk_frozen hV 0; have v2_1 : wn2.cell? ⟨w1.heap.size, 1, none⟩ = some (.int .i64 b) := (blk_cell hV 1).trans rfl; have f2_1 := blk_frozen hV 1; have v2_2 : wn2.cell? ⟨w1.heap.size, 2, none⟩ = some (.int .i64 0) := (blk_cell hV 2).trans rfl; have f2_2 := blk_frozen hV 2; have HV2 := Lib.hid hV; clear hb hV)
  rw [rounds_succ]
  go_wp2
  all_goals
    go_ret3
    refine ⟨?_, below_set HX2n.out HX1.out.size⟩
    rw [← HR.out]
    clear HR
    unfold clkR
    repeat (first | rw [if_pos (by omega)] | rw [if_neg (by omega)])
    first | done | rfl | (congr 3 <;> omega) | (simp; done) | (simp; omega)
set_option maxRecDepth 100000 in
set_option maxHeartbeats 1000000 in
theorem clk_0_none (t : ByteArray) (w : World) (r1 r2 : Int) (h1 : r1 < 0) (hsh : shp t CB 0 0 = (r1, r2)) :
    Calls Tryd.prog 64 #[.string t, .bool false] w fun e w' => e = .returned (.tuple #[.int .i64 0, .bool false, .int .i64 r2]) ∧ Below w.heap.size w w' := by
  have HS := Lib.hid (clk_shape CB rfl (by decide) t (w.alloc (.cells (CB.map Value.string).toArray 9)) (w.heap.size) r1 r2 hsh (blk_new w _))
  clear hsh
  go_enter Tryd.func64, Tryd.ntmps64
  go_wp2_with (go_at_call 42; (refine HS.out.mono ?_); rintro e w1 ⟨rfl, hb1⟩; have HX1 := Lib.hid (((Below.refl _ w).alloc (Nat.le_refl _) _).trans (hb1.mono (by first | omega | (simp; done) | (simp; omega)))); clear hb1)
  go_ret3
  exact ⟨rfl, HX1.out⟩
set_option maxRecDepth 100000 in
set_option maxHeartbeats 1000000 in
theorem clk_1_none (t : ByteArray) (w : World) (r1 r2 : Int) (h1 : r1 < 0) (hsh : shp t CE 0 0 = (r1, r2)) :
    Calls Tryd.prog 64 #[.string t, .bool true] w fun e w' => e = .returned (.tuple #[.int .i64 0, .bool false, .int .i64 r2]) ∧ Below w.heap.size w w' := by
  have HS := Lib.hid (clk_shape CE rfl (by decide) t ((w.alloc (.cells (CB.map Value.string).toArray 9)).alloc (.cells (CE.map Value.string).toArray 9)) (w.heap.size + 1) r1 r2 hsh (blk_one w _ _))
  clear hsh
  go_enter Tryd.func64, Tryd.ntmps64
  go_wp2_with (go_at_call 42; (refine HS.out.mono ?_); rintro e w1 ⟨rfl, hb1⟩; have HX1 := Lib.hid ((((Below.refl _ w).alloc (Nat.le_refl _) _).alloc (by simp) _).trans (hb1.mono (by first | omega | (simp; done) | (simp; omega)))); clear hb1)
  go_ret3
  exact ⟨rfl, HX1.out⟩
/-- what clock answers -/
def clockF (t : ByteArray) (ext : Bool) : T3 :=
  if (shp t (if ext then CE else CB) 0 0).1 < 0 then (0, false, (shp t (if ext then CE else CB) 0 0).2)
  else if (shp t (if ext then CE else CB) 0 0).1 = 0 then clkR (nmv t 0 2) 0 0 (if ext then 3 else 2)
  else if (shp t (if ext then CE else CB) 0 0).1 = 1 then clkR (nmv t 0 2) (nmv t (if ext then 3 else 2) 2) 0 (if ext then 3 else 2)
  else clkR (nmv t 0 2) (nmv t (if ext then 3 else 2) 2) (nmv t (if ext then 6 else 4) 2) (if ext then 3 else 2)
theorem clock_calls (t : ByteArray) (ext : Bool) (w : World) :
    Calls Tryd.prog 64 #[.string t, .bool ext] w fun e w' => e = .returned (.tuple #[.int .i64 (clockF t ext).1, .bool (clockF t ext).2.1, .int .i64 (clockF t ext).2.2]) ∧ Below w.heap.size w w' := by
  cases ext
  · by_cases h : (shp t CB 0 0).1 < 0
    · have e : clockF t false = (0, false, (shp t CB 0 0).2) := if_pos h
      rw [e]; exact clk_0_none t w _ _ h rfl
    · have e : clockF t false = _ := if_neg h
      obtain ⟨j, hj, e1, e2, e3⟩ := shp_get t CB 0 0 (by omega)
      simp only [e1, Nat.zero_add, Bool.false_eq_true, if_true, if_false] at e
      have hj3 : j < 3 := hj
      match j, hj3 with
      | 0, _ =>
        have E : clockF t false = clkR (nmv t 0 2) 0 0 2 := e
        have hz : fit t ⟨#[100, 100]⟩ = 2 := e3
        rw [E]; exact clk_0_0 t w (by rw [← hz]; exact e2.symm) e1 hz
      | 1, _ =>
        have E : clockF t false = clkR (nmv t 0 2) (nmv t 2 2) 0 2 := e
        have hz : fit t ⟨#[100, 100, 100, 100]⟩ = 4 := e3
        rw [E]; exact clk_0_1 t w (by rw [← hz]; exact e2.symm) e1 hz
      | 2, _ =>
        have E : clockF t false = clkR (nmv t 0 2) (nmv t 2 2) (nmv t 4 2) 2 := e
        have hz : fit t ⟨#[100, 100, 100, 100, 100, 100]⟩ = 6 := e3
        rw [E]; exact clk_0_2 t w (by rw [← hz]; exact e2.symm) e1 hz
  · by_cases h : (shp t CE 0 0).1 < 0
    · have e : clockF t true = (0, false, (shp t CE 0 0).2) := if_pos h
      rw [e]; exact clk_1_none t w _ _ h rfl
    · have e : clockF t true = _ := if_neg h
      obtain ⟨j, hj, e1, e2, e3⟩ := shp_get t CE 0 0 (by omega)
      simp only [e1, Nat.zero_add, Bool.false_eq_true, if_true, if_false] at e
      have hj3 : j < 3 := hj
      match j, hj3 with
      | 0, _ =>
        have E : clockF t true = clkR (nmv t 0 2) 0 0 3 := e
        have hz : fit t ⟨#[100, 100]⟩ = 2 := e3
        rw [E]; exact clk_1_0 t w (by rw [← hz]; exact e2.symm) e1 hz
      | 1, _ =>
        have E : clockF t true = clkR (nmv t 0 2) (nmv t 3 2) 0 3 := e
        have hz : fit t ⟨#[100, 100, 58, 100, 100]⟩ = 5 := e3
        rw [E]; exact clk_1_1 t w (by rw [← hz]; exact e2.symm) e1 hz
      | 2, _ =>
        have E : clockF t true = clkR (nmv t 0 2) (nmv t 3 2) (nmv t 6 2) 3 := e
        have hz : fit t ⟨#[100, 100, 58, 100, 100, 58, 100, 100]⟩ = 8 := e3
        rw [E]; exact clk_1_2 t w (by rw [← hz]; exact e2.symm) e1 hz
end Go.Proofs.YtiklakkkgmilnaaDoor.Ext
