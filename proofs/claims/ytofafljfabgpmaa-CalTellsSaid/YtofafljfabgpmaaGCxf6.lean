-- written by a program (gp.py over the kit's print) for this claim
import Derived.Test.YtofafljfabgpmaaGCx0
import Derived.Test.YtofafljfabgpmaaGCxf10
import Derived.Test.YtofafljfabgpmaaGCxf11
namespace Go.Proofs.Ytofafljfabgpmaa.GC
open Go.RowKit Go.Proofs.YtofafljfabgpmaaW.PrintWords Go.Proofs.YtofafljfabgpmaaW.PrintLast Go.Proofs.Ytofafljfabgpmaa.Ext
attribute [local go_sem] max2_int min2_int max_two min_two   -- for this text alone
set_option linter.unusedVariables false
set_option linter.unusedSimpArgs false

/-! ### larderref03_PrintSpan: function 6 -/
def larderref03_PrintSpan.f (k : Nat) (a0_0 : Int) (a0_1 : Int) (a0_2 : Int) (a0_3 : Int) (a0_4 : Int) (a0_5 : Int) (a0_6 : Int) : Option (ByteArray × Int) := (larderref03_fits.f k a0_0 a0_1 a0_2 a0_3 a0_4 a0_5 a0_6).bind fun t60102 => (if t60102 = true then (if a0_2 > 0 then ((larderref03_part.f k a0_2 (⟨#[87]⟩ : ByteArray)).bind fun t60103 => (if 1 + t60103.size ≤ 9223372036854775807 then (some ((⟨#[80]⟩ : ByteArray) ++ t60103, 0)) else (none))) else ((larderref03_part.f k a0_0 (⟨#[89]⟩ : ByteArray)).bind fun t60104 => ((larderref03_part.f k a0_1 (⟨#[77]⟩ : ByteArray)).bind fun t60105 => (if t60104.size + t60105.size ≤ 9223372036854775807 then ((larderref03_part.f k a0_3 (⟨#[68]⟩ : ByteArray)).bind fun t60106 => (if t60104.size + t60105.size + t60106.size ≤ 9223372036854775807 then ((larderref03_part.f k a0_4 (⟨#[72]⟩ : ByteArray)).bind fun t60107 => ((larderref03_part.f k a0_5 (⟨#[77]⟩ : ByteArray)).bind fun t60108 => (if t60107.size + t60108.size ≤ 9223372036854775807 then ((larderref03_part.f k a0_6 (⟨#[83]⟩ : ByteArray)).bind fun t60109 => (if t60107.size + t60108.size + t60109.size ≤ 9223372036854775807 then (if ((t60107 ++ t60108) ++ t60109).toList = ([] : List UInt8) then (if ((t60104 ++ t60105) ++ t60106).toList = ([] : List UInt8) then (some ((⟨#[80, 84, 48, 83]⟩ : ByteArray), 0)) else (if 1 + (t60104.size + t60105.size + t60106.size) ≤ 9223372036854775807 then (some ((⟨#[80]⟩ : ByteArray) ++ ((t60104 ++ t60105) ++ t60106), 0)) else (none))) else (if 1 + (t60104.size + t60105.size + t60106.size) ≤ 9223372036854775807 then (if 1 + (t60104.size + t60105.size + t60106.size) + 1 ≤ 9223372036854775807 then (if 1 + (t60104.size + t60105.size + t60106.size) + 1 + (t60107.size + t60108.size + t60109.size) ≤ 9223372036854775807 then (some ((((⟨#[80]⟩ : ByteArray) ++ ((t60104 ++ t60105) ++ t60106)) ++ (⟨#[84]⟩ : ByteArray)) ++ ((t60107 ++ t60108) ++ t60109), 0)) else (none)) else (none)) else (none))) else (none))) else (none)))) else (none))) else (none))))) else (some ((⟨#[]⟩ : ByteArray), 34)))
theorem larderref03_PrintSpan.mono : ∀ a0 a1 a2 a3 a4 a5 a6 k, LeO (larderref03_PrintSpan.f k a0 a1 a2 a3 a4 a5 a6) (larderref03_PrintSpan.f (k + 1) a0 a1 a2 a3 a4 a5 a6) := by
  intro a0 a1 a2 a3 a4 a5 a6 k
  unfold larderref03_PrintSpan.f
  repeat' first
      | (with_reducible exact larderref03_fits.mono _ _ _ _ _ _ _ _)
      | (with_reducible exact larderref03_part.mono _ _ _)
      | (with_reducible exact LeO.refl _)
      | (with_reducible exact LeO.none _)
      | (with_reducible refine LeO.ite ?_ ?_)
      | (with_reducible refine LeO.bind ?_ (fun _ => ?_))
      | exact larderref03_fits.mono _ _ _ _ _ _ _ _
      | exact larderref03_part.mono _ _ _
      | exact LeO.none _
      | refine LeO.ite ?_ ?_
      | refine LeO.bind ?_ (fun _ => ?_)
def larderref03_PrintSpan.T6 : Bool × List (List Nat × List Nat) := (true, [([], []), ([0], [0]), ([1], [1]), ([], []), ([3], [3]), ([4, 2], [4]), ([2, 5], [2, 5]), ([], []), ([7], [7]), ([8, 5], [8]), ([6, 9], [6, 9]), ([10, 9, 0, 1, 2, 3, 4, 5, 6, 7, 8, 9, 10], [10])])
def larderref03_PrintSpan.B6 : List Nat := [0, 1, 3, 0, 8, 31, 63, 0, 128, 447, 1023, 2047]
theorem larderref03_PrintSpan.tab6 : rtab .any (opsOf Try.f6 6) = larderref03_PrintSpan.T6 := by kernel_rfl
theorem larderref03_PrintSpan.bits6 : waitsOk larderref03_PrintSpan.T6.2 larderref03_PrintSpan.B6 = true := by kernel_rfl
def larderref03_PrintSpan.T7 : Bool × List (List Nat × List Nat) := (true, [([], []), ([0], [0]), ([1], [1]), ([], []), ([3], [3]), ([4, 2], [4]), ([2, 5], [2, 5]), ([], []), ([7], [7]), ([8, 5], [8]), ([6, 9], [6, 9]), ([10, 9, 0, 1, 2, 3, 4, 5, 6, 7, 8, 9, 10], [10])])
def larderref03_PrintSpan.B7 : List Nat := [0, 1, 3, 0, 8, 31, 63, 0, 128, 447, 1023, 2047]
theorem larderref03_PrintSpan.tab7 : rtab .any (opsOf Try.f6 7) = larderref03_PrintSpan.T7 := by kernel_rfl
theorem larderref03_PrintSpan.bits7 : waitsOk larderref03_PrintSpan.T7.2 larderref03_PrintSpan.B7 = true := by kernel_rfl
set_option maxHeartbeats 8000000 in
set_option maxRecDepth 100000 in
theorem larderref03_PrintSpan.calls (k : Nat) (a0_0 : Int) (a0_1 : Int) (a0_2 : Int) (a0_3 : Int) (a0_4 : Int) (a0_5 : Int) (a0_6 : Int) (r1 : ByteArray) (r2 : Int) (w : World) (h : larderref03_PrintSpan.f k a0_0 a0_1 a0_2 a0_3 a0_4 a0_5 a0_6 = some (r1, r2)) :
    Calls Try.prog 6 #[.agg #[.int .i64 a0_0, .int .i64 a0_1, .int .i64 a0_2, .int .i64 a0_3, .int .i64 a0_4, .int .i64 a0_5, .int .i64 a0_6]] w fun e w' => e = .returned (.tuple #[.string r1, .int .i64 r2]) ∧ Below w.heap.size w w' := by
  have hu23 := Try.underlying23
  have HB := Aside0.mk (Below.refl w.heap.size w)
  have H : ((larderref03_fits.f k a0_0 a0_1 a0_2 a0_3 a0_4 a0_5 a0_6).bind fun t60102 => (if t60102 = true then (if a0_2 > 0 then ((larderref03_part.f k a0_2 (⟨#[87]⟩ : ByteArray)).bind fun t60103 => (if 1 + t60103.size ≤ 9223372036854775807 then (some ((⟨#[80]⟩ : ByteArray) ++ t60103, 0)) else (none))) else ((larderref03_part.f k a0_0 (⟨#[89]⟩ : ByteArray)).bind fun t60104 => ((larderref03_part.f k a0_1 (⟨#[77]⟩ : ByteArray)).bind fun t60105 => (if t60104.size + t60105.size ≤ 9223372036854775807 then ((larderref03_part.f k a0_3 (⟨#[68]⟩ : ByteArray)).bind fun t60106 => (if t60104.size + t60105.size + t60106.size ≤ 9223372036854775807 then ((larderref03_part.f k a0_4 (⟨#[72]⟩ : ByteArray)).bind fun t60107 => ((larderref03_part.f k a0_5 (⟨#[77]⟩ : ByteArray)).bind fun t60108 => (if t60107.size + t60108.size ≤ 9223372036854775807 then ((larderref03_part.f k a0_6 (⟨#[83]⟩ : ByteArray)).bind fun t60109 => (if t60107.size + t60108.size + t60109.size ≤ 9223372036854775807 then (if ((t60107 ++ t60108) ++ t60109).toList = ([] : List UInt8) then (if ((t60104 ++ t60105) ++ t60106).toList = ([] : List UInt8) then (some ((⟨#[80, 84, 48, 83]⟩ : ByteArray), 0)) else (if 1 + (t60104.size + t60105.size + t60106.size) ≤ 9223372036854775807 then (some ((⟨#[80]⟩ : ByteArray) ++ ((t60104 ++ t60105) ++ t60106), 0)) else (none))) else (if 1 + (t60104.size + t60105.size + t60106.size) ≤ 9223372036854775807 then (if 1 + (t60104.size + t60105.size + t60106.size) + 1 ≤ 9223372036854775807 then (if 1 + (t60104.size + t60105.size + t60106.size) + 1 + (t60107.size + t60108.size + t60109.size) ≤ 9223372036854775807 then (some ((((⟨#[80]⟩ : ByteArray) ++ ((t60104 ++ t60105) ++ t60106)) ++ (⟨#[84]⟩ : ByteArray)) ++ ((t60107 ++ t60108) ++ t60109), 0)) else (none)) else (none)) else (none))) else (none))) else (none)))) else (none))) else (none))))) else (some ((⟨#[]⟩ : ByteArray), 34)))) = some (r1, r2) := h
  clear h
  replace H := Option.bind_eq_some_iff.mp H
  obtain ⟨t60102, A20, H⟩ := H
  replace H : (if t60102 = true then (if a0_2 > 0 then ((larderref03_part.f k a0_2 (⟨#[87]⟩ : ByteArray)).bind fun t60103 => (if 1 + t60103.size ≤ 9223372036854775807 then (some ((⟨#[80]⟩ : ByteArray) ++ t60103, 0)) else (none))) else ((larderref03_part.f k a0_0 (⟨#[89]⟩ : ByteArray)).bind fun t60104 => ((larderref03_part.f k a0_1 (⟨#[77]⟩ : ByteArray)).bind fun t60105 => (if t60104.size + t60105.size ≤ 9223372036854775807 then ((larderref03_part.f k a0_3 (⟨#[68]⟩ : ByteArray)).bind fun t60106 => (if t60104.size + t60105.size + t60106.size ≤ 9223372036854775807 then ((larderref03_part.f k a0_4 (⟨#[72]⟩ : ByteArray)).bind fun t60107 => ((larderref03_part.f k a0_5 (⟨#[77]⟩ : ByteArray)).bind fun t60108 => (if t60107.size + t60108.size ≤ 9223372036854775807 then ((larderref03_part.f k a0_6 (⟨#[83]⟩ : ByteArray)).bind fun t60109 => (if t60107.size + t60108.size + t60109.size ≤ 9223372036854775807 then (if ((t60107 ++ t60108) ++ t60109).toList = ([] : List UInt8) then (if ((t60104 ++ t60105) ++ t60106).toList = ([] : List UInt8) then (some ((⟨#[80, 84, 48, 83]⟩ : ByteArray), 0)) else (if 1 + (t60104.size + t60105.size + t60106.size) ≤ 9223372036854775807 then (some ((⟨#[80]⟩ : ByteArray) ++ ((t60104 ++ t60105) ++ t60106), 0)) else (none))) else (if 1 + (t60104.size + t60105.size + t60106.size) ≤ 9223372036854775807 then (if 1 + (t60104.size + t60105.size + t60106.size) + 1 ≤ 9223372036854775807 then (if 1 + (t60104.size + t60105.size + t60106.size) + 1 + (t60107.size + t60108.size + t60109.size) ≤ 9223372036854775807 then (some ((((⟨#[80]⟩ : ByteArray) ++ ((t60104 ++ t60105) ++ t60106)) ++ (⟨#[84]⟩ : ByteArray)) ++ ((t60107 ++ t60108) ++ t60109), 0)) else (none)) else (none)) else (none))) else (none))) else (none)))) else (none))) else (none))))) else (some ((⟨#[]⟩ : ByteArray), 34))) = some (r1, r2) := H
  have A2 := Aside0.mk A20
  clear A20
  by_cases c3 : t60102 = true
  · subst c3
    have H1 : (if a0_2 > 0 then ((larderref03_part.f k a0_2 (⟨#[87]⟩ : ByteArray)).bind fun t60103 => (if 1 + t60103.size ≤ 9223372036854775807 then (some ((⟨#[80]⟩ : ByteArray) ++ t60103, 0)) else (none))) else ((larderref03_part.f k a0_0 (⟨#[89]⟩ : ByteArray)).bind fun t60104 => ((larderref03_part.f k a0_1 (⟨#[77]⟩ : ByteArray)).bind fun t60105 => (if t60104.size + t60105.size ≤ 9223372036854775807 then ((larderref03_part.f k a0_3 (⟨#[68]⟩ : ByteArray)).bind fun t60106 => (if t60104.size + t60105.size + t60106.size ≤ 9223372036854775807 then ((larderref03_part.f k a0_4 (⟨#[72]⟩ : ByteArray)).bind fun t60107 => ((larderref03_part.f k a0_5 (⟨#[77]⟩ : ByteArray)).bind fun t60108 => (if t60107.size + t60108.size ≤ 9223372036854775807 then ((larderref03_part.f k a0_6 (⟨#[83]⟩ : ByteArray)).bind fun t60109 => (if t60107.size + t60108.size + t60109.size ≤ 9223372036854775807 then (if ((t60107 ++ t60108) ++ t60109).toList = ([] : List UInt8) then (if ((t60104 ++ t60105) ++ t60106).toList = ([] : List UInt8) then (some ((⟨#[80, 84, 48, 83]⟩ : ByteArray), 0)) else (if 1 + (t60104.size + t60105.size + t60106.size) ≤ 9223372036854775807 then (some ((⟨#[80]⟩ : ByteArray) ++ ((t60104 ++ t60105) ++ t60106), 0)) else (none))) else (if 1 + (t60104.size + t60105.size + t60106.size) ≤ 9223372036854775807 then (if 1 + (t60104.size + t60105.size + t60106.size) + 1 ≤ 9223372036854775807 then (if 1 + (t60104.size + t60105.size + t60106.size) + 1 + (t60107.size + t60108.size + t60109.size) ≤ 9223372036854775807 then (some ((((⟨#[80]⟩ : ByteArray) ++ ((t60104 ++ t60105) ++ t60106)) ++ (⟨#[84]⟩ : ByteArray)) ++ ((t60107 ++ t60108) ++ t60109), 0)) else (none)) else (none)) else (none))) else (none))) else (none)))) else (none))) else (none))))) = some (r1, r2) := by rw [if_pos rfl] at H; exact H
    clear H
    have H := H1
    clear H1
    by_cases c4 : a0_2 > 0
    · rw [if_pos c4] at H
      have c4b0 : decide (0 < a0_2) = true := decide_eq_true c4
      clear c4
      replace H := Option.bind_eq_some_iff.mp H
      obtain ⟨t60103, A50, H⟩ := H
      replace H : (if 1 + t60103.size ≤ 9223372036854775807 then (some ((⟨#[80]⟩ : ByteArray) ++ t60103, 0)) else (none)) = some (r1, r2) := H
      have A5 := Aside0.mk A50
      clear A50
      by_cases c6 : 1 + t60103.size ≤ 9223372036854775807
      · rw [if_pos c6] at H
        have c6b0 := eq_true c6
        have c6b1 : decide (1 + t60103.size ≤ 9223372036854775807) = true := decide_eq_true c6
        try have c6b2 : (9223372036854775807 < 1 + t60103.size) = False := eq_false (Nat.not_lt.2 c6)
        simp only [Option.some.injEq, Prod.mk.injEq] at H
        obtain ⟨rfl, rfl⟩ := H
        go_enter Try.func6, Try.ntmps6
        go_wp2_with (first | ((with_reducible refine gate_dst (N := 1) rfl ?_); refine box_event ?hg (N := 1) ?hd (cs := #[.int .i64 a0_0, .int .i64 a0_1, .int .i64 a0_2, .int .i64 a0_3, .int .i64 a0_4, .int .i64 a0_5, .int .i64 a0_6]) (t := 23) ?hr ?_; (case hd => rfl); (case hg => rfl); (case hr => first | (go_simp; done) | (go_simp; rfl)); intro gb60101 hg w7 hbox hb; have n0_ := Aside0.mk (below_step (by repeat (first | (with_reducible first | exact HB.out | apply below_alloc | apply pw_below_drewN | apply below_drew1) | exact HB.out)) hb); have n1_ := Aside0.mk (hbox); have n2_ := Aside0.mk ((by rw [hg]; exact (below_size (by repeat (first | (with_reducible first | exact HB.out | apply below_alloc | apply pw_below_drewN | apply below_drew1) | exact HB.out))) : w.heap.size ≤ gb60101)); have n3_ := Aside0.mk ((by rw [hg]; exact (below_size (by repeat (first | (with_reducible first | exact HB.out | apply below_alloc | apply pw_below_drewN | apply below_drew1) | exact HB.out))) : w.heap.size ≤ gb60101)); clear HB; have HB := n0_; have BK60101 := n1_; have GW60101 := n2_; have GE60101 := n3_; clear n0_ n1_ n2_ n3_; clear hb hbox hg; have hcz8_0 : w7.cell? ⟨gb60101, 0, none⟩ = some (.int .i64 a0_0) := (blk_cell BK60101.out 0).trans rfl; have hcz8_1 : w7.cell? ⟨gb60101, 1, none⟩ = some (.int .i64 a0_1) := (blk_cell BK60101.out 1).trans rfl; have hcz8_2 : w7.cell? ⟨gb60101, 2, none⟩ = some (.int .i64 a0_2) := (blk_cell BK60101.out 2).trans rfl; have hcz8_3 : w7.cell? ⟨gb60101, 3, none⟩ = some (.int .i64 a0_3) := (blk_cell BK60101.out 3).trans rfl; have hcz8_4 : w7.cell? ⟨gb60101, 4, none⟩ = some (.int .i64 a0_4) := (blk_cell BK60101.out 4).trans rfl; have hcz8_5 : w7.cell? ⟨gb60101, 5, none⟩ = some (.int .i64 a0_5) := (blk_cell BK60101.out 5).trans rfl; have hcz8_6 : w7.cell? ⟨gb60101, 6, none⟩ = some (.int .i64 a0_6) := (blk_cell BK60101.out 6).trans rfl; have hfz8_0 := blk_frozen BK60101.out 0; have hfz8_1 := blk_frozen BK60101.out 1; have hfz8_2 := blk_frozen BK60101.out 2; have hfz8_3 := blk_frozen BK60101.out 3; have hfz8_4 := blk_frozen BK60101.out 4; have hfz8_5 := blk_frozen BK60101.out 5; have hfz8_6 := blk_frozen BK60101.out 6) | ((with_reducible refine gate_callee (f := 10) rfl ?_); refine goesL_ (some 8) rfl rfl Try.func10 (by kernel_rfl) rfl #[.agg #[.int .i64 a0_0, .int .i64 a0_1, .int .i64 a0_2, .int .i64 a0_3, .int .i64 a0_4, .int .i64 a0_5, .int .i64 a0_6]] rfl (by (try simp only [List.map_toArray, List.map_cons, List.map_nil]); first | done | rfl | (simp only [List.length_drop, List.length_take]; rfl)) ?_; (with_reducible refine (larderref03_fits.calls k a0_0 a0_1 a0_2 a0_3 a0_4 a0_5 a0_6 true _ A2.out).mono ?_); rintro e w9 ⟨rfl, hb⟩; refine ⟨_, rfl, ?_⟩; have n0_ := Aside0.mk (blk_below (g := gb60101) (o := .cells #[.int .i64 a0_0, .int .i64 a0_1, .int .i64 a0_2, .int .i64 a0_3, .int .i64 a0_4, .int .i64 a0_5, .int .i64 a0_6] 23 (0, 0)) (by (with_reducible repeat (first | refine blk_drewN ?_ _ | refine blk_drew ?_ | refine blk_alloc ?_ _)); exact BK60101.out) hb); have n1_ := Aside0.mk (below_step (by repeat (first | (with_reducible first | exact HB.out | apply below_alloc | apply pw_below_drewN | apply below_drew1 | refine below_set ?_ GE60101.out) | exact HB.out)) hb); clear BK60101; clear HB; have BK60101 := n0_; have HB := n1_; clear n0_ n1_; (try clear hb); (try clear hb2); (try clear hk); (try clear hi); have hcz10_0 : w9.cell? ⟨gb60101, 0, none⟩ = some (.int .i64 a0_0) := (blk_cell BK60101.out 0).trans rfl; have hcz10_1 : w9.cell? ⟨gb60101, 1, none⟩ = some (.int .i64 a0_1) := (blk_cell BK60101.out 1).trans rfl; have hcz10_2 : w9.cell? ⟨gb60101, 2, none⟩ = some (.int .i64 a0_2) := (blk_cell BK60101.out 2).trans rfl; have hcz10_3 : w9.cell? ⟨gb60101, 3, none⟩ = some (.int .i64 a0_3) := (blk_cell BK60101.out 3).trans rfl; have hcz10_4 : w9.cell? ⟨gb60101, 4, none⟩ = some (.int .i64 a0_4) := (blk_cell BK60101.out 4).trans rfl; have hcz10_5 : w9.cell? ⟨gb60101, 5, none⟩ = some (.int .i64 a0_5) := (blk_cell BK60101.out 5).trans rfl; have hcz10_6 : w9.cell? ⟨gb60101, 6, none⟩ = some (.int .i64 a0_6) := (blk_cell BK60101.out 6).trans rfl; have hfz10_0 := blk_frozen BK60101.out 0; have hfz10_1 := blk_frozen BK60101.out 1; have hfz10_2 := blk_frozen BK60101.out 2; have hfz10_3 := blk_frozen BK60101.out 3; have hfz10_4 := blk_frozen BK60101.out 4; have hfz10_5 := blk_frozen BK60101.out 5; have hfz10_6 := blk_frozen BK60101.out 6) | ((with_reducible refine gate_callee (f := 11) rfl ?_); refine goesL_ (some 16) rfl rfl Try.func11 (by kernel_rfl) rfl #[.int .i64 a0_2, .string (⟨#[87]⟩ : ByteArray)] rfl (by (try simp only [List.map_toArray, List.map_cons, List.map_nil]); first | done | rfl | (simp only [List.length_drop, List.length_take]; rfl)) ?_; (with_reducible refine (larderref03_part.calls k a0_2 (⟨#[87]⟩ : ByteArray) t60103 _ A5.out).mono ?_); rintro e w11 ⟨rfl, hb⟩; refine ⟨_, rfl, ?_⟩; have n0_ := Aside0.mk (blk_below (g := gb60101) (o := .cells #[.int .i64 a0_0, .int .i64 a0_1, .int .i64 a0_2, .int .i64 a0_3, .int .i64 a0_4, .int .i64 a0_5, .int .i64 a0_6] 23 (0, 0)) (by (with_reducible repeat (first | refine blk_drewN ?_ _ | refine blk_drew ?_ | refine blk_alloc ?_ _)); exact BK60101.out) hb); have n1_ := Aside0.mk (below_step (by repeat (first | (with_reducible first | exact HB.out | apply below_alloc | apply pw_below_drewN | apply below_drew1 | refine below_set ?_ GE60101.out) | exact HB.out)) hb); clear BK60101; clear HB; have BK60101 := n0_; have HB := n1_; clear n0_ n1_; (try clear hb); (try clear hb2); (try clear hk); (try clear hi)))
        go_ret2
        exact ⟨by first | rfl | (simp [errW_none, errW_some] <;> rfl) | (simp [*, errW_none, errW_some] <;> rfl), by repeat (first | (with_reducible first | exact HB.out | apply below_alloc | apply pw_below_drewN | apply below_drew1 | refine below_set ?_ GE60101.out) | exact HB.out)⟩
      · rw [if_neg c6] at H
        exact absurd H (by simp)
    · rw [if_neg c4] at H
      have c4b0 : decide (0 < a0_2) = false := decide_eq_false c4
      clear c4
      replace H := Option.bind_eq_some_iff.mp H
      obtain ⟨t60104, A120, H⟩ := H
      replace H : ((larderref03_part.f k a0_1 (⟨#[77]⟩ : ByteArray)).bind fun t60105 => (if t60104.size + t60105.size ≤ 9223372036854775807 then ((larderref03_part.f k a0_3 (⟨#[68]⟩ : ByteArray)).bind fun t60106 => (if t60104.size + t60105.size + t60106.size ≤ 9223372036854775807 then ((larderref03_part.f k a0_4 (⟨#[72]⟩ : ByteArray)).bind fun t60107 => ((larderref03_part.f k a0_5 (⟨#[77]⟩ : ByteArray)).bind fun t60108 => (if t60107.size + t60108.size ≤ 9223372036854775807 then ((larderref03_part.f k a0_6 (⟨#[83]⟩ : ByteArray)).bind fun t60109 => (if t60107.size + t60108.size + t60109.size ≤ 9223372036854775807 then (if ((t60107 ++ t60108) ++ t60109).toList = ([] : List UInt8) then (if ((t60104 ++ t60105) ++ t60106).toList = ([] : List UInt8) then (some ((⟨#[80, 84, 48, 83]⟩ : ByteArray), 0)) else (if 1 + (t60104.size + t60105.size + t60106.size) ≤ 9223372036854775807 then (some ((⟨#[80]⟩ : ByteArray) ++ ((t60104 ++ t60105) ++ t60106), 0)) else (none))) else (if 1 + (t60104.size + t60105.size + t60106.size) ≤ 9223372036854775807 then (if 1 + (t60104.size + t60105.size + t60106.size) + 1 ≤ 9223372036854775807 then (if 1 + (t60104.size + t60105.size + t60106.size) + 1 + (t60107.size + t60108.size + t60109.size) ≤ 9223372036854775807 then (some ((((⟨#[80]⟩ : ByteArray) ++ ((t60104 ++ t60105) ++ t60106)) ++ (⟨#[84]⟩ : ByteArray)) ++ ((t60107 ++ t60108) ++ t60109), 0)) else (none)) else (none)) else (none))) else (none))) else (none)))) else (none))) else (none))) = some (r1, r2) := H
      have A12 := Aside0.mk A120
      clear A120
      replace H := Option.bind_eq_some_iff.mp H
      obtain ⟨t60105, A130, H⟩ := H
      replace H : (if t60104.size + t60105.size ≤ 9223372036854775807 then ((larderref03_part.f k a0_3 (⟨#[68]⟩ : ByteArray)).bind fun t60106 => (if t60104.size + t60105.size + t60106.size ≤ 9223372036854775807 then ((larderref03_part.f k a0_4 (⟨#[72]⟩ : ByteArray)).bind fun t60107 => ((larderref03_part.f k a0_5 (⟨#[77]⟩ : ByteArray)).bind fun t60108 => (if t60107.size + t60108.size ≤ 9223372036854775807 then ((larderref03_part.f k a0_6 (⟨#[83]⟩ : ByteArray)).bind fun t60109 => (if t60107.size + t60108.size + t60109.size ≤ 9223372036854775807 then (if ((t60107 ++ t60108) ++ t60109).toList = ([] : List UInt8) then (if ((t60104 ++ t60105) ++ t60106).toList = ([] : List UInt8) then (some ((⟨#[80, 84, 48, 83]⟩ : ByteArray), 0)) else (if 1 + (t60104.size + t60105.size + t60106.size) ≤ 9223372036854775807 then (some ((⟨#[80]⟩ : ByteArray) ++ ((t60104 ++ t60105) ++ t60106), 0)) else (none))) else (if 1 + (t60104.size + t60105.size + t60106.size) ≤ 9223372036854775807 then (if 1 + (t60104.size + t60105.size + t60106.size) + 1 ≤ 9223372036854775807 then (if 1 + (t60104.size + t60105.size + t60106.size) + 1 + (t60107.size + t60108.size + t60109.size) ≤ 9223372036854775807 then (some ((((⟨#[80]⟩ : ByteArray) ++ ((t60104 ++ t60105) ++ t60106)) ++ (⟨#[84]⟩ : ByteArray)) ++ ((t60107 ++ t60108) ++ t60109), 0)) else (none)) else (none)) else (none))) else (none))) else (none)))) else (none))) else (none)) = some (r1, r2) := H
      have A13 := Aside0.mk A130
      clear A130
      by_cases c14 : t60104.size + t60105.size ≤ 9223372036854775807
      · rw [if_pos c14] at H
        have c14b0 := eq_true c14
        have c14b1 : decide (t60104.size + t60105.size ≤ 9223372036854775807) = true := decide_eq_true c14
        try have c14b2 : (9223372036854775807 < t60104.size + t60105.size) = False := eq_false (Nat.not_lt.2 c14)
        replace H := Option.bind_eq_some_iff.mp H
        obtain ⟨t60106, A150, H⟩ := H
        replace H : (if t60104.size + t60105.size + t60106.size ≤ 9223372036854775807 then ((larderref03_part.f k a0_4 (⟨#[72]⟩ : ByteArray)).bind fun t60107 => ((larderref03_part.f k a0_5 (⟨#[77]⟩ : ByteArray)).bind fun t60108 => (if t60107.size + t60108.size ≤ 9223372036854775807 then ((larderref03_part.f k a0_6 (⟨#[83]⟩ : ByteArray)).bind fun t60109 => (if t60107.size + t60108.size + t60109.size ≤ 9223372036854775807 then (if ((t60107 ++ t60108) ++ t60109).toList = ([] : List UInt8) then (if ((t60104 ++ t60105) ++ t60106).toList = ([] : List UInt8) then (some ((⟨#[80, 84, 48, 83]⟩ : ByteArray), 0)) else (if 1 + (t60104.size + t60105.size + t60106.size) ≤ 9223372036854775807 then (some ((⟨#[80]⟩ : ByteArray) ++ ((t60104 ++ t60105) ++ t60106), 0)) else (none))) else (if 1 + (t60104.size + t60105.size + t60106.size) ≤ 9223372036854775807 then (if 1 + (t60104.size + t60105.size + t60106.size) + 1 ≤ 9223372036854775807 then (if 1 + (t60104.size + t60105.size + t60106.size) + 1 + (t60107.size + t60108.size + t60109.size) ≤ 9223372036854775807 then (some ((((⟨#[80]⟩ : ByteArray) ++ ((t60104 ++ t60105) ++ t60106)) ++ (⟨#[84]⟩ : ByteArray)) ++ ((t60107 ++ t60108) ++ t60109), 0)) else (none)) else (none)) else (none))) else (none))) else (none)))) else (none)) = some (r1, r2) := H
        have A15 := Aside0.mk A150
        clear A150
        by_cases c16 : t60104.size + t60105.size + t60106.size ≤ 9223372036854775807
        · rw [if_pos c16] at H
          have c16b0 := eq_true c16
          have c16b1 : decide (t60104.size + t60105.size + t60106.size ≤ 9223372036854775807) = true := decide_eq_true c16
          try have c16b2 : (9223372036854775807 < t60104.size + t60105.size + t60106.size) = False := eq_false (Nat.not_lt.2 c16)
          replace H := Option.bind_eq_some_iff.mp H
          obtain ⟨t60107, A170, H⟩ := H
          replace H : ((larderref03_part.f k a0_5 (⟨#[77]⟩ : ByteArray)).bind fun t60108 => (if t60107.size + t60108.size ≤ 9223372036854775807 then ((larderref03_part.f k a0_6 (⟨#[83]⟩ : ByteArray)).bind fun t60109 => (if t60107.size + t60108.size + t60109.size ≤ 9223372036854775807 then (if ((t60107 ++ t60108) ++ t60109).toList = ([] : List UInt8) then (if ((t60104 ++ t60105) ++ t60106).toList = ([] : List UInt8) then (some ((⟨#[80, 84, 48, 83]⟩ : ByteArray), 0)) else (if 1 + (t60104.size + t60105.size + t60106.size) ≤ 9223372036854775807 then (some ((⟨#[80]⟩ : ByteArray) ++ ((t60104 ++ t60105) ++ t60106), 0)) else (none))) else (if 1 + (t60104.size + t60105.size + t60106.size) ≤ 9223372036854775807 then (if 1 + (t60104.size + t60105.size + t60106.size) + 1 ≤ 9223372036854775807 then (if 1 + (t60104.size + t60105.size + t60106.size) + 1 + (t60107.size + t60108.size + t60109.size) ≤ 9223372036854775807 then (some ((((⟨#[80]⟩ : ByteArray) ++ ((t60104 ++ t60105) ++ t60106)) ++ (⟨#[84]⟩ : ByteArray)) ++ ((t60107 ++ t60108) ++ t60109), 0)) else (none)) else (none)) else (none))) else (none))) else (none))) = some (r1, r2) := H
          have A17 := Aside0.mk A170
          clear A170
          replace H := Option.bind_eq_some_iff.mp H
          obtain ⟨t60108, A180, H⟩ := H
          replace H : (if t60107.size + t60108.size ≤ 9223372036854775807 then ((larderref03_part.f k a0_6 (⟨#[83]⟩ : ByteArray)).bind fun t60109 => (if t60107.size + t60108.size + t60109.size ≤ 9223372036854775807 then (if ((t60107 ++ t60108) ++ t60109).toList = ([] : List UInt8) then (if ((t60104 ++ t60105) ++ t60106).toList = ([] : List UInt8) then (some ((⟨#[80, 84, 48, 83]⟩ : ByteArray), 0)) else (if 1 + (t60104.size + t60105.size + t60106.size) ≤ 9223372036854775807 then (some ((⟨#[80]⟩ : ByteArray) ++ ((t60104 ++ t60105) ++ t60106), 0)) else (none))) else (if 1 + (t60104.size + t60105.size + t60106.size) ≤ 9223372036854775807 then (if 1 + (t60104.size + t60105.size + t60106.size) + 1 ≤ 9223372036854775807 then (if 1 + (t60104.size + t60105.size + t60106.size) + 1 + (t60107.size + t60108.size + t60109.size) ≤ 9223372036854775807 then (some ((((⟨#[80]⟩ : ByteArray) ++ ((t60104 ++ t60105) ++ t60106)) ++ (⟨#[84]⟩ : ByteArray)) ++ ((t60107 ++ t60108) ++ t60109), 0)) else (none)) else (none)) else (none))) else (none))) else (none)) = some (r1, r2) := H
          have A18 := Aside0.mk A180
          clear A180
          by_cases c19 : t60107.size + t60108.size ≤ 9223372036854775807
          · rw [if_pos c19] at H
            have c19b0 := eq_true c19
            have c19b1 : decide (t60107.size + t60108.size ≤ 9223372036854775807) = true := decide_eq_true c19
            try have c19b2 : (9223372036854775807 < t60107.size + t60108.size) = False := eq_false (Nat.not_lt.2 c19)
            replace H := Option.bind_eq_some_iff.mp H
            obtain ⟨t60109, A200, H⟩ := H
            replace H : (if t60107.size + t60108.size + t60109.size ≤ 9223372036854775807 then (if ((t60107 ++ t60108) ++ t60109).toList = ([] : List UInt8) then (if ((t60104 ++ t60105) ++ t60106).toList = ([] : List UInt8) then (some ((⟨#[80, 84, 48, 83]⟩ : ByteArray), 0)) else (if 1 + (t60104.size + t60105.size + t60106.size) ≤ 9223372036854775807 then (some ((⟨#[80]⟩ : ByteArray) ++ ((t60104 ++ t60105) ++ t60106), 0)) else (none))) else (if 1 + (t60104.size + t60105.size + t60106.size) ≤ 9223372036854775807 then (if 1 + (t60104.size + t60105.size + t60106.size) + 1 ≤ 9223372036854775807 then (if 1 + (t60104.size + t60105.size + t60106.size) + 1 + (t60107.size + t60108.size + t60109.size) ≤ 9223372036854775807 then (some ((((⟨#[80]⟩ : ByteArray) ++ ((t60104 ++ t60105) ++ t60106)) ++ (⟨#[84]⟩ : ByteArray)) ++ ((t60107 ++ t60108) ++ t60109), 0)) else (none)) else (none)) else (none))) else (none)) = some (r1, r2) := H
            have A20 := Aside0.mk A200
            clear A200
            by_cases c21 : t60107.size + t60108.size + t60109.size ≤ 9223372036854775807
            · rw [if_pos c21] at H
              have c21b0 := eq_true c21
              have c21b1 : decide (t60107.size + t60108.size + t60109.size ≤ 9223372036854775807) = true := decide_eq_true c21
              try have c21b2 : (9223372036854775807 < t60107.size + t60108.size + t60109.size) = False := eq_false (Nat.not_lt.2 c21)
              by_cases c22 : ((t60107 ++ t60108) ++ t60109).toList = ([] : List UInt8)
              · rw [if_pos c22] at H
                have c22b0 : (((t60107 ++ t60108) ++ t60109).toList == ([] : List UInt8)) = true := beq_iff_eq.mpr c22
                have c22b1 : (((t60107 ++ t60108) ++ t60109).toList != ([] : List UInt8)) = false := bne_eq_false_iff_eq.mpr c22
                clear c22
                by_cases c23 : ((t60104 ++ t60105) ++ t60106).toList = ([] : List UInt8)
                · rw [if_pos c23] at H
                  have c23b0 : (((t60104 ++ t60105) ++ t60106).toList == ([] : List UInt8)) = true := beq_iff_eq.mpr c23
                  have c23b1 : (((t60104 ++ t60105) ++ t60106).toList != ([] : List UInt8)) = false := bne_eq_false_iff_eq.mpr c23
                  clear c23
                  simp only [Option.some.injEq, Prod.mk.injEq] at H
                  obtain ⟨rfl, rfl⟩ := H
                  go_enter Try.func6, Try.ntmps6
                  try go_wp2_with (first | ((with_reducible refine gate_dst (N := 1) rfl ?_); refine box_event ?hg (N := 1) ?hd (cs := #[.int .i64 a0_0, .int .i64 a0_1, .int .i64 a0_2, .int .i64 a0_3, .int .i64 a0_4, .int .i64 a0_5, .int .i64 a0_6]) (t := 23) ?hr ?_; (case hd => rfl); (case hg => rfl); (case hr => first | (go_simp; done) | (go_simp; rfl)); intro gb60101 hg w24 hbox hb; have n0_ := Aside0.mk (below_step (by repeat (first | (with_reducible first | exact HB.out | apply below_alloc | apply pw_below_drewN | apply below_drew1) | exact HB.out)) hb); have n1_ := Aside0.mk (hbox); have n2_ := Aside0.mk ((by rw [hg]; exact (below_size (by repeat (first | (with_reducible first | exact HB.out | apply below_alloc | apply pw_below_drewN | apply below_drew1) | exact HB.out))) : w.heap.size ≤ gb60101)); have n3_ := Aside0.mk ((by rw [hg]; exact (below_size (by repeat (first | (with_reducible first | exact HB.out | apply below_alloc | apply pw_below_drewN | apply below_drew1) | exact HB.out))) : w.heap.size ≤ gb60101)); clear HB; have HB := n0_; have BK60101 := n1_; have GW60101 := n2_; have GE60101 := n3_; clear n0_ n1_ n2_ n3_; clear hb hbox hg; have hcz25_0 : w24.cell? ⟨gb60101, 0, none⟩ = some (.int .i64 a0_0) := (blk_cell BK60101.out 0).trans rfl; have hcz25_1 : w24.cell? ⟨gb60101, 1, none⟩ = some (.int .i64 a0_1) := (blk_cell BK60101.out 1).trans rfl; have hcz25_2 : w24.cell? ⟨gb60101, 2, none⟩ = some (.int .i64 a0_2) := (blk_cell BK60101.out 2).trans rfl; have hcz25_3 : w24.cell? ⟨gb60101, 3, none⟩ = some (.int .i64 a0_3) := (blk_cell BK60101.out 3).trans rfl; have hcz25_4 : w24.cell? ⟨gb60101, 4, none⟩ = some (.int .i64 a0_4) := (blk_cell BK60101.out 4).trans rfl; have hcz25_5 : w24.cell? ⟨gb60101, 5, none⟩ = some (.int .i64 a0_5) := (blk_cell BK60101.out 5).trans rfl; have hcz25_6 : w24.cell? ⟨gb60101, 6, none⟩ = some (.int .i64 a0_6) := (blk_cell BK60101.out 6).trans rfl; have hfz25_0 := blk_frozen BK60101.out 0; have hfz25_1 := blk_frozen BK60101.out 1; have hfz25_2 := blk_frozen BK60101.out 2; have hfz25_3 := blk_frozen BK60101.out 3; have hfz25_4 := blk_frozen BK60101.out 4; have hfz25_5 := blk_frozen BK60101.out 5; have hfz25_6 := blk_frozen BK60101.out 6) | ((with_reducible refine gate_callee (f := 10) rfl ?_); refine goesL_ (some 8) rfl rfl Try.func10 (by kernel_rfl) rfl #[.agg #[.int .i64 a0_0, .int .i64 a0_1, .int .i64 a0_2, .int .i64 a0_3, .int .i64 a0_4, .int .i64 a0_5, .int .i64 a0_6]] rfl (by (try simp only [List.map_toArray, List.map_cons, List.map_nil]); first | done | rfl | (simp only [List.length_drop, List.length_take]; rfl)) ?_; (with_reducible refine (larderref03_fits.calls k a0_0 a0_1 a0_2 a0_3 a0_4 a0_5 a0_6 true _ A2.out).mono ?_); rintro e w26 ⟨rfl, hb⟩; refine ⟨_, rfl, ?_⟩; have n0_ := Aside0.mk (blk_below (g := gb60101) (o := .cells #[.int .i64 a0_0, .int .i64 a0_1, .int .i64 a0_2, .int .i64 a0_3, .int .i64 a0_4, .int .i64 a0_5, .int .i64 a0_6] 23 (0, 0)) (by (with_reducible repeat (first | refine blk_drewN ?_ _ | refine blk_drew ?_ | refine blk_alloc ?_ _)); exact BK60101.out) hb); have n1_ := Aside0.mk (below_step (by repeat (first | (with_reducible first | exact HB.out | apply below_alloc | apply pw_below_drewN | apply below_drew1 | refine below_set ?_ GE60101.out) | exact HB.out)) hb); clear BK60101; clear HB; have BK60101 := n0_; have HB := n1_; clear n0_ n1_; (try clear hb); (try clear hb2); (try clear hk); (try clear hi); have hcz27_0 : w26.cell? ⟨gb60101, 0, none⟩ = some (.int .i64 a0_0) := (blk_cell BK60101.out 0).trans rfl; have hcz27_1 : w26.cell? ⟨gb60101, 1, none⟩ = some (.int .i64 a0_1) := (blk_cell BK60101.out 1).trans rfl; have hcz27_2 : w26.cell? ⟨gb60101, 2, none⟩ = some (.int .i64 a0_2) := (blk_cell BK60101.out 2).trans rfl; have hcz27_3 : w26.cell? ⟨gb60101, 3, none⟩ = some (.int .i64 a0_3) := (blk_cell BK60101.out 3).trans rfl; have hcz27_4 : w26.cell? ⟨gb60101, 4, none⟩ = some (.int .i64 a0_4) := (blk_cell BK60101.out 4).trans rfl; have hcz27_5 : w26.cell? ⟨gb60101, 5, none⟩ = some (.int .i64 a0_5) := (blk_cell BK60101.out 5).trans rfl; have hcz27_6 : w26.cell? ⟨gb60101, 6, none⟩ = some (.int .i64 a0_6) := (blk_cell BK60101.out 6).trans rfl; have hfz27_0 := blk_frozen BK60101.out 0; have hfz27_1 := blk_frozen BK60101.out 1; have hfz27_2 := blk_frozen BK60101.out 2; have hfz27_3 := blk_frozen BK60101.out 3; have hfz27_4 := blk_frozen BK60101.out 4; have hfz27_5 := blk_frozen BK60101.out 5; have hfz27_6 := blk_frozen BK60101.out 6))
                  have n0_ := Aside0.mk (blk_drew BK60101.out)
                  have n1_ := Aside0.mk (below_drew1 HB.out)
                  clear BK60101
                  clear HB
                  have BK60101 := n0_
                  have HB := n1_
                  clear n0_ n1_
                  refine start_ (n := 12) (S := fun w' => w'.cell? ⟨gb60101, 0, none⟩ = some (.int .i64 a0_0) ∧ w'.cell? ⟨gb60101, 1, none⟩ = some (.int .i64 a0_1) ∧ w'.cell? ⟨gb60101, 2, none⟩ = some (.int .i64 a0_2) ∧ w'.cell? ⟨gb60101, 3, none⟩ = some (.int .i64 a0_3) ∧ w'.cell? ⟨gb60101, 4, none⟩ = some (.int .i64 a0_4) ∧ w'.cell? ⟨gb60101, 5, none⟩ = some (.int .i64 a0_5) ∧ w'.cell? ⟨gb60101, 6, none⟩ = some (.int .i64 a0_6)) (ds := []) #[false, false, false, false, false, false, false, false, false, false, false, false] (by kernel_rfl) rfl rfl ⟨(blk_cell BK60101.out 0).trans rfl, (blk_cell BK60101.out 1).trans rfl, (blk_cell BK60101.out 2).trans rfl, (blk_cell BK60101.out 3).trans rfl, (blk_cell BK60101.out 4).trans rfl, (blk_cell BK60101.out 5).trans rfl, (blk_cell BK60101.out 6).trans rfl⟩ (fun hHeld => ?_); refine with_tabW larderref03_PrintSpan.tab6 larderref03_PrintSpan.bits6 (fun HT_ HW_ => ?_)
                  generalize w26.drew = w28 at BK60101 HB hHeld ⊢
                  refine pure_ (i := 0) (N := some 18) (v := ?_) (a' := ?_) #[true, false, false, false, false, false, false, false, false, false, false, false] rfl rfl (any_of HT_.out (by kernel_rfl)) (fun _ _ _ h => h) (Or.inl ⟨by rfl, ?_⟩) ?_ ?_
                  rotate_left
                  · intro w'
                    go_simp
                    with_reducible rfl
                  rotate_left
                  · simp only [Act.put, List.setIfInBounds_toArray, List.set_cons_zero, List.set_cons_succ, i64_w, i32_w]
                    rfl
                  refine pure_ (i := 3) (N := some 21) (v := ?_) (a' := ?_) #[true, false, false, true, false, false, false, false, false, false, false, false] rfl rfl (any_of HT_.out (by kernel_rfl)) (fun _ _ _ h => h) (Or.inl ⟨by rfl, ?_⟩) ?_ ?_
                  rotate_left
                  · intro w'
                    go_simp
                    with_reducible rfl
                  rotate_left
                  · simp only [Act.put, List.setIfInBounds_toArray, List.set_cons_zero, List.set_cons_succ, i64_w, i32_w]
                    rfl
                  refine pure_ (i := 7) (N := some 25) (v := ?_) (a' := ?_) #[true, false, false, true, false, false, false, true, false, false, false, false] rfl rfl (any_of HT_.out (by kernel_rfl)) (fun _ _ _ h => h) (Or.inl ⟨by rfl, ?_⟩) ?_ ?_
                  rotate_left
                  · intro w'
                    go_simp
                    with_reducible rfl
                  rotate_left
                  · simp only [Act.put, List.setIfInBounds_toArray, List.set_cons_zero, List.set_cons_succ, i64_w, i32_w]
                    rfl
                  refine take_ (i := 1) (N := some 19) (v := ?_) (a' := ?_) #[true, true, false, true, false, false, false, true, false, false, false, false] rfl rfl (take_ofW HT_.out HW_.out (by kernel_rfl)) (fun _ _ _ h => h) (Or.inl ⟨by rfl, ?_⟩) hHeld ?_ ?_
                  rotate_left
                  · rintro w' ⟨s0, s1, s2, s3, s4, s5, s6⟩
                    go_simp
                    with_reducible rfl
                  rotate_left
                  · simp only [Act.put, List.setIfInBounds_toArray, List.set_cons_zero, List.set_cons_succ, i64_w, i32_w]
                    rfl
                  refine take_ (i := 4) (N := some 22) (v := ?_) (a' := ?_) #[true, true, false, true, true, false, false, true, false, false, false, false] rfl rfl (take_ofW HT_.out HW_.out (by kernel_rfl)) (fun _ _ _ h => h) (Or.inl ⟨by rfl, ?_⟩) hHeld ?_ ?_
                  rotate_left
                  · rintro w' ⟨s0, s1, s2, s3, s4, s5, s6⟩
                    go_simp
                    with_reducible rfl
                  rotate_left
                  · simp only [Act.put, List.setIfInBounds_toArray, List.set_cons_zero, List.set_cons_succ, i64_w, i32_w]
                    rfl
                  refine take_ (i := 8) (N := some 26) (v := ?_) (a' := ?_) #[true, true, false, true, true, false, false, true, true, false, false, false] rfl rfl (take_ofW HT_.out HW_.out (by kernel_rfl)) (fun _ _ _ h => h) (Or.inl ⟨by rfl, ?_⟩) hHeld ?_ ?_
                  rotate_left
                  · rintro w' ⟨s0, s1, s2, s3, s4, s5, s6⟩
                    go_simp
                    with_reducible rfl
                  rotate_left
                  · simp only [Act.put, List.setIfInBounds_toArray, List.set_cons_zero, List.set_cons_succ, i64_w, i32_w]
                    rfl
                  refine one_ (i := 2) (N := some 20) #[true, true, true, true, true, false, false, true, true, false, false, false] rfl rfl (one_of HT_.out (by kernel_rfl)) (by decide) (fun K hK => ?_)
                  refine goes_ Try.func11 (by kernel_rfl) rfl #[.int .i64 a0_0, .string (⟨#[89]⟩ : ByteArray)] (by rfl) rfl rfl (by (try simp only [List.map_toArray, List.map_cons, List.map_nil]); first | done | rfl | (simp only [List.length_drop, List.length_take]; rfl)) ?_
                  with_reducible refine (larderref03_part.calls k a0_0 (⟨#[89]⟩ : ByteArray) t60104 _ A12.out).mono ?_
                  rintro e w29 ⟨rfl, hb⟩
                  refine ⟨_, rfl, ?_⟩
                  have n0_ := Aside0.mk (blk_below (g := gb60101) (o := .cells #[.int .i64 a0_0, .int .i64 a0_1, .int .i64 a0_2, .int .i64 a0_3, .int .i64 a0_4, .int .i64 a0_5, .int .i64 a0_6] 23 (0, 0)) (by (with_reducible repeat (first | refine blk_drewN ?_ _ | refine blk_drew ?_ | refine blk_alloc ?_ _)); exact BK60101.out) hb)
                  have n1_ := Aside0.mk (below_step (by repeat (first | (with_reducible first | exact HB.out | apply below_alloc | apply pw_below_drewN | apply below_drew1 | refine below_set ?_ GE60101.out) | exact HB.out)) hb)
                  clear BK60101
                  clear HB
                  have BK60101 := n0_
                  have HB := n1_
                  clear n0_ n1_
                  (try clear hb)
                  (try clear hb2)
                  (try clear hk)
                  (try clear hi)
                  refine hK.out _ _ ⟨(blk_cell BK60101.out 0).trans rfl, (blk_cell BK60101.out 1).trans rfl, (blk_cell BK60101.out 2).trans rfl, (blk_cell BK60101.out 3).trans rfl, (blk_cell BK60101.out 4).trans rfl, (blk_cell BK60101.out 5).trans rfl, (blk_cell BK60101.out 6).trans rfl⟩ (fun hHeld => ?_)
                  clear hK K
                  refine norm_ (a' := ?_) ?_ ?_
                  rotate_left
                  · show Act.put _ (some 20) _ = _
                    simp only [Act.put, List.setIfInBounds_toArray, List.set_cons_zero, List.set_cons_succ, i64_w, i32_w]
                    rfl
                  refine one_ (i := 5) (N := some 23) #[true, true, true, true, true, true, false, true, true, false, false, false] rfl rfl (one_of HT_.out (by kernel_rfl)) (by decide) (fun K hK => ?_)
                  refine goes_ Try.func11 (by kernel_rfl) rfl #[.int .i64 a0_1, .string (⟨#[77]⟩ : ByteArray)] (by rfl) rfl rfl (by (try simp only [List.map_toArray, List.map_cons, List.map_nil]); first | done | rfl | (simp only [List.length_drop, List.length_take]; rfl)) ?_
                  with_reducible refine (larderref03_part.calls k a0_1 (⟨#[77]⟩ : ByteArray) t60105 _ A13.out).mono ?_
                  rintro e w30 ⟨rfl, hb⟩
                  refine ⟨_, rfl, ?_⟩
                  have n0_ := Aside0.mk (blk_below (g := gb60101) (o := .cells #[.int .i64 a0_0, .int .i64 a0_1, .int .i64 a0_2, .int .i64 a0_3, .int .i64 a0_4, .int .i64 a0_5, .int .i64 a0_6] 23 (0, 0)) (by (with_reducible repeat (first | refine blk_drewN ?_ _ | refine blk_drew ?_ | refine blk_alloc ?_ _)); exact BK60101.out) hb)
                  have n1_ := Aside0.mk (below_step (by repeat (first | (with_reducible first | exact HB.out | apply below_alloc | apply pw_below_drewN | apply below_drew1 | refine below_set ?_ GE60101.out) | exact HB.out)) hb)
                  clear BK60101
                  clear HB
                  have BK60101 := n0_
                  have HB := n1_
                  clear n0_ n1_
                  (try clear hb)
                  (try clear hb2)
                  (try clear hk)
                  (try clear hi)
                  refine hK.out _ _ ⟨(blk_cell BK60101.out 0).trans rfl, (blk_cell BK60101.out 1).trans rfl, (blk_cell BK60101.out 2).trans rfl, (blk_cell BK60101.out 3).trans rfl, (blk_cell BK60101.out 4).trans rfl, (blk_cell BK60101.out 5).trans rfl, (blk_cell BK60101.out 6).trans rfl⟩ (fun hHeld => ?_)
                  clear hK K
                  refine norm_ (a' := ?_) ?_ ?_
                  rotate_left
                  · show Act.put _ (some 23) _ = _
                    simp only [Act.put, List.setIfInBounds_toArray, List.set_cons_zero, List.set_cons_succ, i64_w, i32_w]
                    rfl
                  refine pure_ (i := 6) (N := some 24) (v := ?_) (a' := ?_) #[true, true, true, true, true, true, true, true, true, false, false, false] rfl rfl (any_of HT_.out (by kernel_rfl)) (fun _ _ _ h => h) (Or.inl ⟨by rfl, ?_⟩) ?_ ?_
                  rotate_left
                  · intro w'
                    go_simp
                    with_reducible rfl
                  rotate_left
                  · simp only [Act.put, List.setIfInBounds_toArray, List.set_cons_zero, List.set_cons_succ, i64_w, i32_w]
                    rfl
                  refine one_ (i := 9) (N := some 27) #[true, true, true, true, true, true, true, true, true, true, false, false] rfl rfl (one_of HT_.out (by kernel_rfl)) (by decide) (fun K hK => ?_)
                  refine goes_ Try.func11 (by kernel_rfl) rfl #[.int .i64 a0_3, .string (⟨#[68]⟩ : ByteArray)] (by rfl) rfl rfl (by (try simp only [List.map_toArray, List.map_cons, List.map_nil]); first | done | rfl | (simp only [List.length_drop, List.length_take]; rfl)) ?_
                  with_reducible refine (larderref03_part.calls k a0_3 (⟨#[68]⟩ : ByteArray) t60106 _ A15.out).mono ?_
                  rintro e w31 ⟨rfl, hb⟩
                  refine ⟨_, rfl, ?_⟩
                  have n0_ := Aside0.mk (blk_below (g := gb60101) (o := .cells #[.int .i64 a0_0, .int .i64 a0_1, .int .i64 a0_2, .int .i64 a0_3, .int .i64 a0_4, .int .i64 a0_5, .int .i64 a0_6] 23 (0, 0)) (by (with_reducible repeat (first | refine blk_drewN ?_ _ | refine blk_drew ?_ | refine blk_alloc ?_ _)); exact BK60101.out) hb)
                  have n1_ := Aside0.mk (below_step (by repeat (first | (with_reducible first | exact HB.out | apply below_alloc | apply pw_below_drewN | apply below_drew1 | refine below_set ?_ GE60101.out) | exact HB.out)) hb)
                  clear BK60101
                  clear HB
                  have BK60101 := n0_
                  have HB := n1_
                  clear n0_ n1_
                  (try clear hb)
                  (try clear hb2)
                  (try clear hk)
                  (try clear hi)
                  refine hK.out _ _ ⟨(blk_cell BK60101.out 0).trans rfl, (blk_cell BK60101.out 1).trans rfl, (blk_cell BK60101.out 2).trans rfl, (blk_cell BK60101.out 3).trans rfl, (blk_cell BK60101.out 4).trans rfl, (blk_cell BK60101.out 5).trans rfl, (blk_cell BK60101.out 6).trans rfl⟩ (fun hHeld => ?_)
                  clear hK K
                  refine norm_ (a' := ?_) ?_ ?_
                  rotate_left
                  · show Act.put _ (some 27) _ = _
                    simp only [Act.put, List.setIfInBounds_toArray, List.set_cons_zero, List.set_cons_succ, i64_w, i32_w]
                    rfl
                  refine pure_ (i := 10) (N := some 28) (v := ?_) (a' := ?_) #[true, true, true, true, true, true, true, true, true, true, true, false] rfl rfl (any_of HT_.out (by kernel_rfl)) (fun _ _ _ h => h) (Or.inl ⟨by rfl, ?_⟩) ?_ ?_
                  rotate_left
                  · intro w'
                    go_simp
                    with_reducible rfl
                  rotate_left
                  · simp only [Act.put, List.setIfInBounds_toArray, List.set_cons_zero, List.set_cons_succ, i64_w, i32_w]
                    rfl
                  refine pure_ (i := 11) (N := some 5) (v := ?_) (a' := ?_) #[true, true, true, true, true, true, true, true, true, true, true, true] rfl rfl (any_of HT_.out (by kernel_rfl)) (fun _ _ _ h => h) (Or.inl ⟨by rfl, ?_⟩) ?_ ?_
                  rotate_left
                  · intro w'
                    go_simp
                    with_reducible rfl
                  rotate_left
                  · simp only [Act.put, List.setIfInBounds_toArray, List.set_cons_zero, List.set_cons_succ, i64_w, i32_w]
                    rfl
                  refine done_ (done_of HT_.out (by kernel_rfl)) ?_
                  try go_wp2
                  have n0_ := Aside0.mk (blk_drew BK60101.out)
                  have n1_ := Aside0.mk (below_drew1 HB.out)
                  clear BK60101
                  clear HB
                  have BK60101 := n0_
                  have HB := n1_
                  clear n0_ n1_
                  refine start_ (n := 12) (S := fun w' => w'.cell? ⟨gb60101, 0, none⟩ = some (.int .i64 a0_0) ∧ w'.cell? ⟨gb60101, 1, none⟩ = some (.int .i64 a0_1) ∧ w'.cell? ⟨gb60101, 2, none⟩ = some (.int .i64 a0_2) ∧ w'.cell? ⟨gb60101, 3, none⟩ = some (.int .i64 a0_3) ∧ w'.cell? ⟨gb60101, 4, none⟩ = some (.int .i64 a0_4) ∧ w'.cell? ⟨gb60101, 5, none⟩ = some (.int .i64 a0_5) ∧ w'.cell? ⟨gb60101, 6, none⟩ = some (.int .i64 a0_6)) (ds := []) #[false, false, false, false, false, false, false, false, false, false, false, false] (by kernel_rfl) rfl rfl ⟨(blk_cell BK60101.out 0).trans rfl, (blk_cell BK60101.out 1).trans rfl, (blk_cell BK60101.out 2).trans rfl, (blk_cell BK60101.out 3).trans rfl, (blk_cell BK60101.out 4).trans rfl, (blk_cell BK60101.out 5).trans rfl, (blk_cell BK60101.out 6).trans rfl⟩ (fun hHeld => ?_); refine with_tabW larderref03_PrintSpan.tab7 larderref03_PrintSpan.bits7 (fun HT_ HW_ => ?_)
                  generalize w31.drew = w32 at BK60101 HB hHeld ⊢
                  refine pure_ (i := 0) (N := some 29) (v := ?_) (a' := ?_) #[true, false, false, false, false, false, false, false, false, false, false, false] rfl rfl (any_of HT_.out (by kernel_rfl)) (fun _ _ _ h => h) (Or.inl ⟨by rfl, ?_⟩) ?_ ?_
                  rotate_left
                  · intro w'
                    go_simp
                    with_reducible rfl
                  rotate_left
                  · simp only [Act.put, List.setIfInBounds_toArray, List.set_cons_zero, List.set_cons_succ, i64_w, i32_w]
                    rfl
                  refine pure_ (i := 3) (N := some 32) (v := ?_) (a' := ?_) #[true, false, false, true, false, false, false, false, false, false, false, false] rfl rfl (any_of HT_.out (by kernel_rfl)) (fun _ _ _ h => h) (Or.inl ⟨by rfl, ?_⟩) ?_ ?_
                  rotate_left
                  · intro w'
                    go_simp
                    with_reducible rfl
                  rotate_left
                  · simp only [Act.put, List.setIfInBounds_toArray, List.set_cons_zero, List.set_cons_succ, i64_w, i32_w]
                    rfl
                  refine pure_ (i := 7) (N := some 36) (v := ?_) (a' := ?_) #[true, false, false, true, false, false, false, true, false, false, false, false] rfl rfl (any_of HT_.out (by kernel_rfl)) (fun _ _ _ h => h) (Or.inl ⟨by rfl, ?_⟩) ?_ ?_
                  rotate_left
                  · intro w'
                    go_simp
                    with_reducible rfl
                  rotate_left
                  · simp only [Act.put, List.setIfInBounds_toArray, List.set_cons_zero, List.set_cons_succ, i64_w, i32_w]
                    rfl
                  refine take_ (i := 1) (N := some 30) (v := ?_) (a' := ?_) #[true, true, false, true, false, false, false, true, false, false, false, false] rfl rfl (take_ofW HT_.out HW_.out (by kernel_rfl)) (fun _ _ _ h => h) (Or.inl ⟨by rfl, ?_⟩) hHeld ?_ ?_
                  rotate_left
                  · rintro w' ⟨s0, s1, s2, s3, s4, s5, s6⟩
                    go_simp
                    with_reducible rfl
                  rotate_left
                  · simp only [Act.put, List.setIfInBounds_toArray, List.set_cons_zero, List.set_cons_succ, i64_w, i32_w]
                    rfl
                  refine take_ (i := 4) (N := some 33) (v := ?_) (a' := ?_) #[true, true, false, true, true, false, false, true, false, false, false, false] rfl rfl (take_ofW HT_.out HW_.out (by kernel_rfl)) (fun _ _ _ h => h) (Or.inl ⟨by rfl, ?_⟩) hHeld ?_ ?_
                  rotate_left
                  · rintro w' ⟨s0, s1, s2, s3, s4, s5, s6⟩
                    go_simp
                    with_reducible rfl
                  rotate_left
                  · simp only [Act.put, List.setIfInBounds_toArray, List.set_cons_zero, List.set_cons_succ, i64_w, i32_w]
                    rfl
                  refine take_ (i := 8) (N := some 37) (v := ?_) (a' := ?_) #[true, true, false, true, true, false, false, true, true, false, false, false] rfl rfl (take_ofW HT_.out HW_.out (by kernel_rfl)) (fun _ _ _ h => h) (Or.inl ⟨by rfl, ?_⟩) hHeld ?_ ?_
                  rotate_left
                  · rintro w' ⟨s0, s1, s2, s3, s4, s5, s6⟩
                    go_simp
                    with_reducible rfl
                  rotate_left
                  · simp only [Act.put, List.setIfInBounds_toArray, List.set_cons_zero, List.set_cons_succ, i64_w, i32_w]
                    rfl
                  refine one_ (i := 2) (N := some 31) #[true, true, true, true, true, false, false, true, true, false, false, false] rfl rfl (one_of HT_.out (by kernel_rfl)) (by decide) (fun K hK => ?_)
                  refine goes_ Try.func11 (by kernel_rfl) rfl #[.int .i64 a0_4, .string (⟨#[72]⟩ : ByteArray)] (by rfl) rfl rfl (by (try simp only [List.map_toArray, List.map_cons, List.map_nil]); first | done | rfl | (simp only [List.length_drop, List.length_take]; rfl)) ?_
                  with_reducible refine (larderref03_part.calls k a0_4 (⟨#[72]⟩ : ByteArray) t60107 _ A17.out).mono ?_
                  rintro e w33 ⟨rfl, hb⟩
                  refine ⟨_, rfl, ?_⟩
                  have n0_ := Aside0.mk (blk_below (g := gb60101) (o := .cells #[.int .i64 a0_0, .int .i64 a0_1, .int .i64 a0_2, .int .i64 a0_3, .int .i64 a0_4, .int .i64 a0_5, .int .i64 a0_6] 23 (0, 0)) (by (with_reducible repeat (first | refine blk_drewN ?_ _ | refine blk_drew ?_ | refine blk_alloc ?_ _)); exact BK60101.out) hb)
                  have n1_ := Aside0.mk (below_step (by repeat (first | (with_reducible first | exact HB.out | apply below_alloc | apply pw_below_drewN | apply below_drew1 | refine below_set ?_ GE60101.out) | exact HB.out)) hb)
                  clear BK60101
                  clear HB
                  have BK60101 := n0_
                  have HB := n1_
                  clear n0_ n1_
                  (try clear hb)
                  (try clear hb2)
                  (try clear hk)
                  (try clear hi)
                  refine hK.out _ _ ⟨(blk_cell BK60101.out 0).trans rfl, (blk_cell BK60101.out 1).trans rfl, (blk_cell BK60101.out 2).trans rfl, (blk_cell BK60101.out 3).trans rfl, (blk_cell BK60101.out 4).trans rfl, (blk_cell BK60101.out 5).trans rfl, (blk_cell BK60101.out 6).trans rfl⟩ (fun hHeld => ?_)
                  clear hK K
                  refine norm_ (a' := ?_) ?_ ?_
                  rotate_left
                  · show Act.put _ (some 31) _ = _
                    simp only [Act.put, List.setIfInBounds_toArray, List.set_cons_zero, List.set_cons_succ, i64_w, i32_w]
                    rfl
                  refine one_ (i := 5) (N := some 34) #[true, true, true, true, true, true, false, true, true, false, false, false] rfl rfl (one_of HT_.out (by kernel_rfl)) (by decide) (fun K hK => ?_)
                  refine goes_ Try.func11 (by kernel_rfl) rfl #[.int .i64 a0_5, .string (⟨#[77]⟩ : ByteArray)] (by rfl) rfl rfl (by (try simp only [List.map_toArray, List.map_cons, List.map_nil]); first | done | rfl | (simp only [List.length_drop, List.length_take]; rfl)) ?_
                  with_reducible refine (larderref03_part.calls k a0_5 (⟨#[77]⟩ : ByteArray) t60108 _ A18.out).mono ?_
                  rintro e w34 ⟨rfl, hb⟩
                  refine ⟨_, rfl, ?_⟩
                  have n0_ := Aside0.mk (blk_below (g := gb60101) (o := .cells #[.int .i64 a0_0, .int .i64 a0_1, .int .i64 a0_2, .int .i64 a0_3, .int .i64 a0_4, .int .i64 a0_5, .int .i64 a0_6] 23 (0, 0)) (by (with_reducible repeat (first | refine blk_drewN ?_ _ | refine blk_drew ?_ | refine blk_alloc ?_ _)); exact BK60101.out) hb)
                  have n1_ := Aside0.mk (below_step (by repeat (first | (with_reducible first | exact HB.out | apply below_alloc | apply pw_below_drewN | apply below_drew1 | refine below_set ?_ GE60101.out) | exact HB.out)) hb)
                  clear BK60101
                  clear HB
                  have BK60101 := n0_
                  have HB := n1_
                  clear n0_ n1_
                  (try clear hb)
                  (try clear hb2)
                  (try clear hk)
                  (try clear hi)
                  refine hK.out _ _ ⟨(blk_cell BK60101.out 0).trans rfl, (blk_cell BK60101.out 1).trans rfl, (blk_cell BK60101.out 2).trans rfl, (blk_cell BK60101.out 3).trans rfl, (blk_cell BK60101.out 4).trans rfl, (blk_cell BK60101.out 5).trans rfl, (blk_cell BK60101.out 6).trans rfl⟩ (fun hHeld => ?_)
                  clear hK K
                  refine norm_ (a' := ?_) ?_ ?_
                  rotate_left
                  · show Act.put _ (some 34) _ = _
                    simp only [Act.put, List.setIfInBounds_toArray, List.set_cons_zero, List.set_cons_succ, i64_w, i32_w]
                    rfl
                  refine pure_ (i := 6) (N := some 35) (v := ?_) (a' := ?_) #[true, true, true, true, true, true, true, true, true, false, false, false] rfl rfl (any_of HT_.out (by kernel_rfl)) (fun _ _ _ h => h) (Or.inl ⟨by rfl, ?_⟩) ?_ ?_
                  rotate_left
                  · intro w'
                    go_simp
                    with_reducible rfl
                  rotate_left
                  · simp only [Act.put, List.setIfInBounds_toArray, List.set_cons_zero, List.set_cons_succ, i64_w, i32_w]
                    rfl
                  refine one_ (i := 9) (N := some 38) #[true, true, true, true, true, true, true, true, true, true, false, false] rfl rfl (one_of HT_.out (by kernel_rfl)) (by decide) (fun K hK => ?_)
                  refine goes_ Try.func11 (by kernel_rfl) rfl #[.int .i64 a0_6, .string (⟨#[83]⟩ : ByteArray)] (by rfl) rfl rfl (by (try simp only [List.map_toArray, List.map_cons, List.map_nil]); first | done | rfl | (simp only [List.length_drop, List.length_take]; rfl)) ?_
                  with_reducible refine (larderref03_part.calls k a0_6 (⟨#[83]⟩ : ByteArray) t60109 _ A20.out).mono ?_
                  rintro e w35 ⟨rfl, hb⟩
                  refine ⟨_, rfl, ?_⟩
                  have n0_ := Aside0.mk (blk_below (g := gb60101) (o := .cells #[.int .i64 a0_0, .int .i64 a0_1, .int .i64 a0_2, .int .i64 a0_3, .int .i64 a0_4, .int .i64 a0_5, .int .i64 a0_6] 23 (0, 0)) (by (with_reducible repeat (first | refine blk_drewN ?_ _ | refine blk_drew ?_ | refine blk_alloc ?_ _)); exact BK60101.out) hb)
                  have n1_ := Aside0.mk (below_step (by repeat (first | (with_reducible first | exact HB.out | apply below_alloc | apply pw_below_drewN | apply below_drew1 | refine below_set ?_ GE60101.out) | exact HB.out)) hb)
                  clear BK60101
                  clear HB
                  have BK60101 := n0_
                  have HB := n1_
                  clear n0_ n1_
                  (try clear hb)
                  (try clear hb2)
                  (try clear hk)
                  (try clear hi)
                  refine hK.out _ _ ⟨(blk_cell BK60101.out 0).trans rfl, (blk_cell BK60101.out 1).trans rfl, (blk_cell BK60101.out 2).trans rfl, (blk_cell BK60101.out 3).trans rfl, (blk_cell BK60101.out 4).trans rfl, (blk_cell BK60101.out 5).trans rfl, (blk_cell BK60101.out 6).trans rfl⟩ (fun hHeld => ?_)
                  clear hK K
                  refine norm_ (a' := ?_) ?_ ?_
                  rotate_left
                  · show Act.put _ (some 38) _ = _
                    simp only [Act.put, List.setIfInBounds_toArray, List.set_cons_zero, List.set_cons_succ, i64_w, i32_w]
                    rfl
                  refine pure_ (i := 10) (N := some 39) (v := ?_) (a' := ?_) #[true, true, true, true, true, true, true, true, true, true, true, false] rfl rfl (any_of HT_.out (by kernel_rfl)) (fun _ _ _ h => h) (Or.inl ⟨by rfl, ?_⟩) ?_ ?_
                  rotate_left
                  · intro w'
                    go_simp
                    with_reducible rfl
                  rotate_left
                  · simp only [Act.put, List.setIfInBounds_toArray, List.set_cons_zero, List.set_cons_succ, i64_w, i32_w]
                    rfl
                  refine pure_ (i := 11) (N := some 6) (v := ?_) (a' := ?_) #[true, true, true, true, true, true, true, true, true, true, true, true] rfl rfl (any_of HT_.out (by kernel_rfl)) (fun _ _ _ h => h) (Or.inl ⟨by rfl, ?_⟩) ?_ ?_
                  rotate_left
                  · intro w'
                    go_simp
                    with_reducible rfl
                  rotate_left
                  · simp only [Act.put, List.setIfInBounds_toArray, List.set_cons_zero, List.set_cons_succ, i64_w, i32_w]
                    rfl
                  refine done_ (done_of HT_.out (by kernel_rfl)) ?_
                  try go_wp2
                  go_ret2
                  exact ⟨by first | rfl | (simp [errW_none, errW_some] <;> rfl) | (simp [*, errW_none, errW_some] <;> rfl), by repeat (first | (with_reducible first | exact HB.out | apply below_alloc | apply pw_below_drewN | apply below_drew1 | refine below_set ?_ GE60101.out) | exact HB.out)⟩
                · rw [if_neg c23] at H
                  have c23b0 : (((t60104 ++ t60105) ++ t60106).toList == ([] : List UInt8)) = false := beq_eq_false_iff_ne.mpr c23
                  have c23b1 : (((t60104 ++ t60105) ++ t60106).toList != ([] : List UInt8)) = true := bne_iff_ne.mpr c23
                  by_cases c36 : 1 + (t60104.size + t60105.size + t60106.size) ≤ 9223372036854775807
                  · rw [if_pos c36] at H
                    have c36b0 := eq_true c36
                    have c36b1 : decide (1 + (t60104.size + t60105.size + t60106.size) ≤ 9223372036854775807) = true := decide_eq_true c36
                    try have c36b2 : (9223372036854775807 < 1 + (t60104.size + t60105.size + t60106.size)) = False := eq_false (Nat.not_lt.2 c36)
                    simp only [Option.some.injEq, Prod.mk.injEq] at H
                    obtain ⟨rfl, rfl⟩ := H
                    go_enter Try.func6, Try.ntmps6
                    try go_wp2_with (first | ((with_reducible refine gate_dst (N := 1) rfl ?_); refine box_event ?hg (N := 1) ?hd (cs := #[.int .i64 a0_0, .int .i64 a0_1, .int .i64 a0_2, .int .i64 a0_3, .int .i64 a0_4, .int .i64 a0_5, .int .i64 a0_6]) (t := 23) ?hr ?_; (case hd => rfl); (case hg => rfl); (case hr => first | (go_simp; done) | (go_simp; rfl)); intro gb60101 hg w37 hbox hb; have n0_ := Aside0.mk (below_step (by repeat (first | (with_reducible first | exact HB.out | apply below_alloc | apply pw_below_drewN | apply below_drew1) | exact HB.out)) hb); have n1_ := Aside0.mk (hbox); have n2_ := Aside0.mk ((by rw [hg]; exact (below_size (by repeat (first | (with_reducible first | exact HB.out | apply below_alloc | apply pw_below_drewN | apply below_drew1) | exact HB.out))) : w.heap.size ≤ gb60101)); have n3_ := Aside0.mk ((by rw [hg]; exact (below_size (by repeat (first | (with_reducible first | exact HB.out | apply below_alloc | apply pw_below_drewN | apply below_drew1) | exact HB.out))) : w.heap.size ≤ gb60101)); clear HB; have HB := n0_; have BK60101 := n1_; have GW60101 := n2_; have GE60101 := n3_; clear n0_ n1_ n2_ n3_; clear hb hbox hg; have hcz38_0 : w37.cell? ⟨gb60101, 0, none⟩ = some (.int .i64 a0_0) := (blk_cell BK60101.out 0).trans rfl; have hcz38_1 : w37.cell? ⟨gb60101, 1, none⟩ = some (.int .i64 a0_1) := (blk_cell BK60101.out 1).trans rfl; have hcz38_2 : w37.cell? ⟨gb60101, 2, none⟩ = some (.int .i64 a0_2) := (blk_cell BK60101.out 2).trans rfl; have hcz38_3 : w37.cell? ⟨gb60101, 3, none⟩ = some (.int .i64 a0_3) := (blk_cell BK60101.out 3).trans rfl; have hcz38_4 : w37.cell? ⟨gb60101, 4, none⟩ = some (.int .i64 a0_4) := (blk_cell BK60101.out 4).trans rfl; have hcz38_5 : w37.cell? ⟨gb60101, 5, none⟩ = some (.int .i64 a0_5) := (blk_cell BK60101.out 5).trans rfl; have hcz38_6 : w37.cell? ⟨gb60101, 6, none⟩ = some (.int .i64 a0_6) := (blk_cell BK60101.out 6).trans rfl; have hfz38_0 := blk_frozen BK60101.out 0; have hfz38_1 := blk_frozen BK60101.out 1; have hfz38_2 := blk_frozen BK60101.out 2; have hfz38_3 := blk_frozen BK60101.out 3; have hfz38_4 := blk_frozen BK60101.out 4; have hfz38_5 := blk_frozen BK60101.out 5; have hfz38_6 := blk_frozen BK60101.out 6) | ((with_reducible refine gate_callee (f := 10) rfl ?_); refine goesL_ (some 8) rfl rfl Try.func10 (by kernel_rfl) rfl #[.agg #[.int .i64 a0_0, .int .i64 a0_1, .int .i64 a0_2, .int .i64 a0_3, .int .i64 a0_4, .int .i64 a0_5, .int .i64 a0_6]] rfl (by (try simp only [List.map_toArray, List.map_cons, List.map_nil]); first | done | rfl | (simp only [List.length_drop, List.length_take]; rfl)) ?_; (with_reducible refine (larderref03_fits.calls k a0_0 a0_1 a0_2 a0_3 a0_4 a0_5 a0_6 true _ A2.out).mono ?_); rintro e w39 ⟨rfl, hb⟩; refine ⟨_, rfl, ?_⟩; have n0_ := Aside0.mk (blk_below (g := gb60101) (o := .cells #[.int .i64 a0_0, .int .i64 a0_1, .int .i64 a0_2, .int .i64 a0_3, .int .i64 a0_4, .int .i64 a0_5, .int .i64 a0_6] 23 (0, 0)) (by (with_reducible repeat (first | refine blk_drewN ?_ _ | refine blk_drew ?_ | refine blk_alloc ?_ _)); exact BK60101.out) hb); have n1_ := Aside0.mk (below_step (by repeat (first | (with_reducible first | exact HB.out | apply below_alloc | apply pw_below_drewN | apply below_drew1 | refine below_set ?_ GE60101.out) | exact HB.out)) hb); clear BK60101; clear HB; have BK60101 := n0_; have HB := n1_; clear n0_ n1_; (try clear hb); (try clear hb2); (try clear hk); (try clear hi); have hcz40_0 : w39.cell? ⟨gb60101, 0, none⟩ = some (.int .i64 a0_0) := (blk_cell BK60101.out 0).trans rfl; have hcz40_1 : w39.cell? ⟨gb60101, 1, none⟩ = some (.int .i64 a0_1) := (blk_cell BK60101.out 1).trans rfl; have hcz40_2 : w39.cell? ⟨gb60101, 2, none⟩ = some (.int .i64 a0_2) := (blk_cell BK60101.out 2).trans rfl; have hcz40_3 : w39.cell? ⟨gb60101, 3, none⟩ = some (.int .i64 a0_3) := (blk_cell BK60101.out 3).trans rfl; have hcz40_4 : w39.cell? ⟨gb60101, 4, none⟩ = some (.int .i64 a0_4) := (blk_cell BK60101.out 4).trans rfl; have hcz40_5 : w39.cell? ⟨gb60101, 5, none⟩ = some (.int .i64 a0_5) := (blk_cell BK60101.out 5).trans rfl; have hcz40_6 : w39.cell? ⟨gb60101, 6, none⟩ = some (.int .i64 a0_6) := (blk_cell BK60101.out 6).trans rfl; have hfz40_0 := blk_frozen BK60101.out 0; have hfz40_1 := blk_frozen BK60101.out 1; have hfz40_2 := blk_frozen BK60101.out 2; have hfz40_3 := blk_frozen BK60101.out 3; have hfz40_4 := blk_frozen BK60101.out 4; have hfz40_5 := blk_frozen BK60101.out 5; have hfz40_6 := blk_frozen BK60101.out 6))
                    have n0_ := Aside0.mk (blk_drew BK60101.out)
                    have n1_ := Aside0.mk (below_drew1 HB.out)
                    clear BK60101
                    clear HB
                    have BK60101 := n0_
                    have HB := n1_
                    clear n0_ n1_
                    refine start_ (n := 12) (S := fun w' => w'.cell? ⟨gb60101, 0, none⟩ = some (.int .i64 a0_0) ∧ w'.cell? ⟨gb60101, 1, none⟩ = some (.int .i64 a0_1) ∧ w'.cell? ⟨gb60101, 2, none⟩ = some (.int .i64 a0_2) ∧ w'.cell? ⟨gb60101, 3, none⟩ = some (.int .i64 a0_3) ∧ w'.cell? ⟨gb60101, 4, none⟩ = some (.int .i64 a0_4) ∧ w'.cell? ⟨gb60101, 5, none⟩ = some (.int .i64 a0_5) ∧ w'.cell? ⟨gb60101, 6, none⟩ = some (.int .i64 a0_6)) (ds := []) #[false, false, false, false, false, false, false, false, false, false, false, false] (by kernel_rfl) rfl rfl ⟨(blk_cell BK60101.out 0).trans rfl, (blk_cell BK60101.out 1).trans rfl, (blk_cell BK60101.out 2).trans rfl, (blk_cell BK60101.out 3).trans rfl, (blk_cell BK60101.out 4).trans rfl, (blk_cell BK60101.out 5).trans rfl, (blk_cell BK60101.out 6).trans rfl⟩ (fun hHeld => ?_); refine with_tabW larderref03_PrintSpan.tab6 larderref03_PrintSpan.bits6 (fun HT_ HW_ => ?_)
                    generalize w39.drew = w41 at BK60101 HB hHeld ⊢
                    refine pure_ (i := 0) (N := some 18) (v := ?_) (a' := ?_) #[true, false, false, false, false, false, false, false, false, false, false, false] rfl rfl (any_of HT_.out (by kernel_rfl)) (fun _ _ _ h => h) (Or.inl ⟨by rfl, ?_⟩) ?_ ?_
                    rotate_left
                    · intro w'
                      go_simp
                      with_reducible rfl
                    rotate_left
                    · simp only [Act.put, List.setIfInBounds_toArray, List.set_cons_zero, List.set_cons_succ, i64_w, i32_w]
                      rfl
                    refine pure_ (i := 3) (N := some 21) (v := ?_) (a' := ?_) #[true, false, false, true, false, false, false, false, false, false, false, false] rfl rfl (any_of HT_.out (by kernel_rfl)) (fun _ _ _ h => h) (Or.inl ⟨by rfl, ?_⟩) ?_ ?_
                    rotate_left
                    · intro w'
                      go_simp
                      with_reducible rfl
                    rotate_left
                    · simp only [Act.put, List.setIfInBounds_toArray, List.set_cons_zero, List.set_cons_succ, i64_w, i32_w]
                      rfl
                    refine pure_ (i := 7) (N := some 25) (v := ?_) (a' := ?_) #[true, false, false, true, false, false, false, true, false, false, false, false] rfl rfl (any_of HT_.out (by kernel_rfl)) (fun _ _ _ h => h) (Or.inl ⟨by rfl, ?_⟩) ?_ ?_
                    rotate_left
                    · intro w'
                      go_simp
                      with_reducible rfl
                    rotate_left
                    · simp only [Act.put, List.setIfInBounds_toArray, List.set_cons_zero, List.set_cons_succ, i64_w, i32_w]
                      rfl
                    refine take_ (i := 1) (N := some 19) (v := ?_) (a' := ?_) #[true, true, false, true, false, false, false, true, false, false, false, false] rfl rfl (take_ofW HT_.out HW_.out (by kernel_rfl)) (fun _ _ _ h => h) (Or.inl ⟨by rfl, ?_⟩) hHeld ?_ ?_
                    rotate_left
                    · rintro w' ⟨s0, s1, s2, s3, s4, s5, s6⟩
                      go_simp
                      with_reducible rfl
                    rotate_left
                    · simp only [Act.put, List.setIfInBounds_toArray, List.set_cons_zero, List.set_cons_succ, i64_w, i32_w]
                      rfl
                    refine take_ (i := 4) (N := some 22) (v := ?_) (a' := ?_) #[true, true, false, true, true, false, false, true, false, false, false, false] rfl rfl (take_ofW HT_.out HW_.out (by kernel_rfl)) (fun _ _ _ h => h) (Or.inl ⟨by rfl, ?_⟩) hHeld ?_ ?_
                    rotate_left
                    · rintro w' ⟨s0, s1, s2, s3, s4, s5, s6⟩
                      go_simp
                      with_reducible rfl
                    rotate_left
                    · simp only [Act.put, List.setIfInBounds_toArray, List.set_cons_zero, List.set_cons_succ, i64_w, i32_w]
                      rfl
                    refine take_ (i := 8) (N := some 26) (v := ?_) (a' := ?_) #[true, true, false, true, true, false, false, true, true, false, false, false] rfl rfl (take_ofW HT_.out HW_.out (by kernel_rfl)) (fun _ _ _ h => h) (Or.inl ⟨by rfl, ?_⟩) hHeld ?_ ?_
                    rotate_left
                    · rintro w' ⟨s0, s1, s2, s3, s4, s5, s6⟩
                      go_simp
                      with_reducible rfl
                    rotate_left
                    · simp only [Act.put, List.setIfInBounds_toArray, List.set_cons_zero, List.set_cons_succ, i64_w, i32_w]
                      rfl
                    refine one_ (i := 2) (N := some 20) #[true, true, true, true, true, false, false, true, true, false, false, false] rfl rfl (one_of HT_.out (by kernel_rfl)) (by decide) (fun K hK => ?_)
                    refine goes_ Try.func11 (by kernel_rfl) rfl #[.int .i64 a0_0, .string (⟨#[89]⟩ : ByteArray)] (by rfl) rfl rfl (by (try simp only [List.map_toArray, List.map_cons, List.map_nil]); first | done | rfl | (simp only [List.length_drop, List.length_take]; rfl)) ?_
                    with_reducible refine (larderref03_part.calls k a0_0 (⟨#[89]⟩ : ByteArray) t60104 _ A12.out).mono ?_
                    rintro e w42 ⟨rfl, hb⟩
                    refine ⟨_, rfl, ?_⟩
                    have n0_ := Aside0.mk (blk_below (g := gb60101) (o := .cells #[.int .i64 a0_0, .int .i64 a0_1, .int .i64 a0_2, .int .i64 a0_3, .int .i64 a0_4, .int .i64 a0_5, .int .i64 a0_6] 23 (0, 0)) (by (with_reducible repeat (first | refine blk_drewN ?_ _ | refine blk_drew ?_ | refine blk_alloc ?_ _)); exact BK60101.out) hb)
                    have n1_ := Aside0.mk (below_step (by repeat (first | (with_reducible first | exact HB.out | apply below_alloc | apply pw_below_drewN | apply below_drew1 | refine below_set ?_ GE60101.out) | exact HB.out)) hb)
                    clear BK60101
                    clear HB
                    have BK60101 := n0_
                    have HB := n1_
                    clear n0_ n1_
                    (try clear hb)
                    (try clear hb2)
                    (try clear hk)
                    (try clear hi)
                    refine hK.out _ _ ⟨(blk_cell BK60101.out 0).trans rfl, (blk_cell BK60101.out 1).trans rfl, (blk_cell BK60101.out 2).trans rfl, (blk_cell BK60101.out 3).trans rfl, (blk_cell BK60101.out 4).trans rfl, (blk_cell BK60101.out 5).trans rfl, (blk_cell BK60101.out 6).trans rfl⟩ (fun hHeld => ?_)
                    clear hK K
                    refine norm_ (a' := ?_) ?_ ?_
                    rotate_left
                    · show Act.put _ (some 20) _ = _
                      simp only [Act.put, List.setIfInBounds_toArray, List.set_cons_zero, List.set_cons_succ, i64_w, i32_w]
                      rfl
                    refine one_ (i := 5) (N := some 23) #[true, true, true, true, true, true, false, true, true, false, false, false] rfl rfl (one_of HT_.out (by kernel_rfl)) (by decide) (fun K hK => ?_)
                    refine goes_ Try.func11 (by kernel_rfl) rfl #[.int .i64 a0_1, .string (⟨#[77]⟩ : ByteArray)] (by rfl) rfl rfl (by (try simp only [List.map_toArray, List.map_cons, List.map_nil]); first | done | rfl | (simp only [List.length_drop, List.length_take]; rfl)) ?_
                    with_reducible refine (larderref03_part.calls k a0_1 (⟨#[77]⟩ : ByteArray) t60105 _ A13.out).mono ?_
                    rintro e w43 ⟨rfl, hb⟩
                    refine ⟨_, rfl, ?_⟩
                    have n0_ := Aside0.mk (blk_below (g := gb60101) (o := .cells #[.int .i64 a0_0, .int .i64 a0_1, .int .i64 a0_2, .int .i64 a0_3, .int .i64 a0_4, .int .i64 a0_5, .int .i64 a0_6] 23 (0, 0)) (by (with_reducible repeat (first | refine blk_drewN ?_ _ | refine blk_drew ?_ | refine blk_alloc ?_ _)); exact BK60101.out) hb)
                    have n1_ := Aside0.mk (below_step (by repeat (first | (with_reducible first | exact HB.out | apply below_alloc | apply pw_below_drewN | apply below_drew1 | refine below_set ?_ GE60101.out) | exact HB.out)) hb)
                    clear BK60101
                    clear HB
                    have BK60101 := n0_
                    have HB := n1_
                    clear n0_ n1_
                    (try clear hb)
                    (try clear hb2)
                    (try clear hk)
                    (try clear hi)
                    refine hK.out _ _ ⟨(blk_cell BK60101.out 0).trans rfl, (blk_cell BK60101.out 1).trans rfl, (blk_cell BK60101.out 2).trans rfl, (blk_cell BK60101.out 3).trans rfl, (blk_cell BK60101.out 4).trans rfl, (blk_cell BK60101.out 5).trans rfl, (blk_cell BK60101.out 6).trans rfl⟩ (fun hHeld => ?_)
                    clear hK K
                    refine norm_ (a' := ?_) ?_ ?_
                    rotate_left
                    · show Act.put _ (some 23) _ = _
                      simp only [Act.put, List.setIfInBounds_toArray, List.set_cons_zero, List.set_cons_succ, i64_w, i32_w]
                      rfl
                    refine pure_ (i := 6) (N := some 24) (v := ?_) (a' := ?_) #[true, true, true, true, true, true, true, true, true, false, false, false] rfl rfl (any_of HT_.out (by kernel_rfl)) (fun _ _ _ h => h) (Or.inl ⟨by rfl, ?_⟩) ?_ ?_
                    rotate_left
                    · intro w'
                      go_simp
                      with_reducible rfl
                    rotate_left
                    · simp only [Act.put, List.setIfInBounds_toArray, List.set_cons_zero, List.set_cons_succ, i64_w, i32_w]
                      rfl
                    refine one_ (i := 9) (N := some 27) #[true, true, true, true, true, true, true, true, true, true, false, false] rfl rfl (one_of HT_.out (by kernel_rfl)) (by decide) (fun K hK => ?_)
                    refine goes_ Try.func11 (by kernel_rfl) rfl #[.int .i64 a0_3, .string (⟨#[68]⟩ : ByteArray)] (by rfl) rfl rfl (by (try simp only [List.map_toArray, List.map_cons, List.map_nil]); first | done | rfl | (simp only [List.length_drop, List.length_take]; rfl)) ?_
                    with_reducible refine (larderref03_part.calls k a0_3 (⟨#[68]⟩ : ByteArray) t60106 _ A15.out).mono ?_
                    rintro e w44 ⟨rfl, hb⟩
                    refine ⟨_, rfl, ?_⟩
                    have n0_ := Aside0.mk (blk_below (g := gb60101) (o := .cells #[.int .i64 a0_0, .int .i64 a0_1, .int .i64 a0_2, .int .i64 a0_3, .int .i64 a0_4, .int .i64 a0_5, .int .i64 a0_6] 23 (0, 0)) (by (with_reducible repeat (first | refine blk_drewN ?_ _ | refine blk_drew ?_ | refine blk_alloc ?_ _)); exact BK60101.out) hb)
                    have n1_ := Aside0.mk (below_step (by repeat (first | (with_reducible first | exact HB.out | apply below_alloc | apply pw_below_drewN | apply below_drew1 | refine below_set ?_ GE60101.out) | exact HB.out)) hb)
                    clear BK60101
                    clear HB
                    have BK60101 := n0_
                    have HB := n1_
                    clear n0_ n1_
                    (try clear hb)
                    (try clear hb2)
                    (try clear hk)
                    (try clear hi)
                    refine hK.out _ _ ⟨(blk_cell BK60101.out 0).trans rfl, (blk_cell BK60101.out 1).trans rfl, (blk_cell BK60101.out 2).trans rfl, (blk_cell BK60101.out 3).trans rfl, (blk_cell BK60101.out 4).trans rfl, (blk_cell BK60101.out 5).trans rfl, (blk_cell BK60101.out 6).trans rfl⟩ (fun hHeld => ?_)
                    clear hK K
                    refine norm_ (a' := ?_) ?_ ?_
                    rotate_left
                    · show Act.put _ (some 27) _ = _
                      simp only [Act.put, List.setIfInBounds_toArray, List.set_cons_zero, List.set_cons_succ, i64_w, i32_w]
                      rfl
                    refine pure_ (i := 10) (N := some 28) (v := ?_) (a' := ?_) #[true, true, true, true, true, true, true, true, true, true, true, false] rfl rfl (any_of HT_.out (by kernel_rfl)) (fun _ _ _ h => h) (Or.inl ⟨by rfl, ?_⟩) ?_ ?_
                    rotate_left
                    · intro w'
                      go_simp
                      with_reducible rfl
                    rotate_left
                    · simp only [Act.put, List.setIfInBounds_toArray, List.set_cons_zero, List.set_cons_succ, i64_w, i32_w]
                      rfl
                    refine pure_ (i := 11) (N := some 5) (v := ?_) (a' := ?_) #[true, true, true, true, true, true, true, true, true, true, true, true] rfl rfl (any_of HT_.out (by kernel_rfl)) (fun _ _ _ h => h) (Or.inl ⟨by rfl, ?_⟩) ?_ ?_
                    rotate_left
                    · intro w'
                      go_simp
                      with_reducible rfl
                    rotate_left
                    · simp only [Act.put, List.setIfInBounds_toArray, List.set_cons_zero, List.set_cons_succ, i64_w, i32_w]
                      rfl
                    refine done_ (done_of HT_.out (by kernel_rfl)) ?_
                    try go_wp2
                    have n0_ := Aside0.mk (blk_drew BK60101.out)
                    have n1_ := Aside0.mk (below_drew1 HB.out)
                    clear BK60101
                    clear HB
                    have BK60101 := n0_
                    have HB := n1_
                    clear n0_ n1_
                    refine start_ (n := 12) (S := fun w' => w'.cell? ⟨gb60101, 0, none⟩ = some (.int .i64 a0_0) ∧ w'.cell? ⟨gb60101, 1, none⟩ = some (.int .i64 a0_1) ∧ w'.cell? ⟨gb60101, 2, none⟩ = some (.int .i64 a0_2) ∧ w'.cell? ⟨gb60101, 3, none⟩ = some (.int .i64 a0_3) ∧ w'.cell? ⟨gb60101, 4, none⟩ = some (.int .i64 a0_4) ∧ w'.cell? ⟨gb60101, 5, none⟩ = some (.int .i64 a0_5) ∧ w'.cell? ⟨gb60101, 6, none⟩ = some (.int .i64 a0_6)) (ds := []) #[false, false, false, false, false, false, false, false, false, false, false, false] (by kernel_rfl) rfl rfl ⟨(blk_cell BK60101.out 0).trans rfl, (blk_cell BK60101.out 1).trans rfl, (blk_cell BK60101.out 2).trans rfl, (blk_cell BK60101.out 3).trans rfl, (blk_cell BK60101.out 4).trans rfl, (blk_cell BK60101.out 5).trans rfl, (blk_cell BK60101.out 6).trans rfl⟩ (fun hHeld => ?_); refine with_tabW larderref03_PrintSpan.tab7 larderref03_PrintSpan.bits7 (fun HT_ HW_ => ?_)
                    generalize w44.drew = w45 at BK60101 HB hHeld ⊢
                    refine pure_ (i := 0) (N := some 29) (v := ?_) (a' := ?_) #[true, false, false, false, false, false, false, false, false, false, false, false] rfl rfl (any_of HT_.out (by kernel_rfl)) (fun _ _ _ h => h) (Or.inl ⟨by rfl, ?_⟩) ?_ ?_
                    rotate_left
                    · intro w'
                      go_simp
                      with_reducible rfl
                    rotate_left
                    · simp only [Act.put, List.setIfInBounds_toArray, List.set_cons_zero, List.set_cons_succ, i64_w, i32_w]
                      rfl
                    refine pure_ (i := 3) (N := some 32) (v := ?_) (a' := ?_) #[true, false, false, true, false, false, false, false, false, false, false, false] rfl rfl (any_of HT_.out (by kernel_rfl)) (fun _ _ _ h => h) (Or.inl ⟨by rfl, ?_⟩) ?_ ?_
                    rotate_left
                    · intro w'
                      go_simp
                      with_reducible rfl
                    rotate_left
                    · simp only [Act.put, List.setIfInBounds_toArray, List.set_cons_zero, List.set_cons_succ, i64_w, i32_w]
                      rfl
                    refine pure_ (i := 7) (N := some 36) (v := ?_) (a' := ?_) #[true, false, false, true, false, false, false, true, false, false, false, false] rfl rfl (any_of HT_.out (by kernel_rfl)) (fun _ _ _ h => h) (Or.inl ⟨by rfl, ?_⟩) ?_ ?_
                    rotate_left
                    · intro w'
                      go_simp
                      with_reducible rfl
                    rotate_left
                    · simp only [Act.put, List.setIfInBounds_toArray, List.set_cons_zero, List.set_cons_succ, i64_w, i32_w]
                      rfl
                    refine take_ (i := 1) (N := some 30) (v := ?_) (a' := ?_) #[true, true, false, true, false, false, false, true, false, false, false, false] rfl rfl (take_ofW HT_.out HW_.out (by kernel_rfl)) (fun _ _ _ h => h) (Or.inl ⟨by rfl, ?_⟩) hHeld ?_ ?_
                    rotate_left
                    · rintro w' ⟨s0, s1, s2, s3, s4, s5, s6⟩
                      go_simp
                      with_reducible rfl
                    rotate_left
                    · simp only [Act.put, List.setIfInBounds_toArray, List.set_cons_zero, List.set_cons_succ, i64_w, i32_w]
                      rfl
                    refine take_ (i := 4) (N := some 33) (v := ?_) (a' := ?_) #[true, true, false, true, true, false, false, true, false, false, false, false] rfl rfl (take_ofW HT_.out HW_.out (by kernel_rfl)) (fun _ _ _ h => h) (Or.inl ⟨by rfl, ?_⟩) hHeld ?_ ?_
                    rotate_left
                    · rintro w' ⟨s0, s1, s2, s3, s4, s5, s6⟩
                      go_simp
                      with_reducible rfl
                    rotate_left
                    · simp only [Act.put, List.setIfInBounds_toArray, List.set_cons_zero, List.set_cons_succ, i64_w, i32_w]
                      rfl
                    refine take_ (i := 8) (N := some 37) (v := ?_) (a' := ?_) #[true, true, false, true, true, false, false, true, true, false, false, false] rfl rfl (take_ofW HT_.out HW_.out (by kernel_rfl)) (fun _ _ _ h => h) (Or.inl ⟨by rfl, ?_⟩) hHeld ?_ ?_
                    rotate_left
                    · rintro w' ⟨s0, s1, s2, s3, s4, s5, s6⟩
                      go_simp
                      with_reducible rfl
                    rotate_left
                    · simp only [Act.put, List.setIfInBounds_toArray, List.set_cons_zero, List.set_cons_succ, i64_w, i32_w]
                      rfl
                    refine one_ (i := 2) (N := some 31) #[true, true, true, true, true, false, false, true, true, false, false, false] rfl rfl (one_of HT_.out (by kernel_rfl)) (by decide) (fun K hK => ?_)
                    refine goes_ Try.func11 (by kernel_rfl) rfl #[.int .i64 a0_4, .string (⟨#[72]⟩ : ByteArray)] (by rfl) rfl rfl (by (try simp only [List.map_toArray, List.map_cons, List.map_nil]); first | done | rfl | (simp only [List.length_drop, List.length_take]; rfl)) ?_
                    with_reducible refine (larderref03_part.calls k a0_4 (⟨#[72]⟩ : ByteArray) t60107 _ A17.out).mono ?_
                    rintro e w46 ⟨rfl, hb⟩
                    refine ⟨_, rfl, ?_⟩
                    have n0_ := Aside0.mk (blk_below (g := gb60101) (o := .cells #[.int .i64 a0_0, .int .i64 a0_1, .int .i64 a0_2, .int .i64 a0_3, .int .i64 a0_4, .int .i64 a0_5, .int .i64 a0_6] 23 (0, 0)) (by (with_reducible repeat (first | refine blk_drewN ?_ _ | refine blk_drew ?_ | refine blk_alloc ?_ _)); exact BK60101.out) hb)
                    have n1_ := Aside0.mk (below_step (by repeat (first | (with_reducible first | exact HB.out | apply below_alloc | apply pw_below_drewN | apply below_drew1 | refine below_set ?_ GE60101.out) | exact HB.out)) hb)
                    clear BK60101
                    clear HB
                    have BK60101 := n0_
                    have HB := n1_
                    clear n0_ n1_
                    (try clear hb)
                    (try clear hb2)
                    (try clear hk)
                    (try clear hi)
                    refine hK.out _ _ ⟨(blk_cell BK60101.out 0).trans rfl, (blk_cell BK60101.out 1).trans rfl, (blk_cell BK60101.out 2).trans rfl, (blk_cell BK60101.out 3).trans rfl, (blk_cell BK60101.out 4).trans rfl, (blk_cell BK60101.out 5).trans rfl, (blk_cell BK60101.out 6).trans rfl⟩ (fun hHeld => ?_)
                    clear hK K
                    refine norm_ (a' := ?_) ?_ ?_
                    rotate_left
                    · show Act.put _ (some 31) _ = _
                      simp only [Act.put, List.setIfInBounds_toArray, List.set_cons_zero, List.set_cons_succ, i64_w, i32_w]
                      rfl
                    refine one_ (i := 5) (N := some 34) #[true, true, true, true, true, true, false, true, true, false, false, false] rfl rfl (one_of HT_.out (by kernel_rfl)) (by decide) (fun K hK => ?_)
                    refine goes_ Try.func11 (by kernel_rfl) rfl #[.int .i64 a0_5, .string (⟨#[77]⟩ : ByteArray)] (by rfl) rfl rfl (by (try simp only [List.map_toArray, List.map_cons, List.map_nil]); first | done | rfl | (simp only [List.length_drop, List.length_take]; rfl)) ?_
                    with_reducible refine (larderref03_part.calls k a0_5 (⟨#[77]⟩ : ByteArray) t60108 _ A18.out).mono ?_
                    rintro e w47 ⟨rfl, hb⟩
                    refine ⟨_, rfl, ?_⟩
                    have n0_ := Aside0.mk (blk_below (g := gb60101) (o := .cells #[.int .i64 a0_0, .int .i64 a0_1, .int .i64 a0_2, .int .i64 a0_3, .int .i64 a0_4, .int .i64 a0_5, .int .i64 a0_6] 23 (0, 0)) (by (with_reducible repeat (first | refine blk_drewN ?_ _ | refine blk_drew ?_ | refine blk_alloc ?_ _)); exact BK60101.out) hb)
                    have n1_ := Aside0.mk (below_step (by repeat (first | (with_reducible first | exact HB.out | apply below_alloc | apply pw_below_drewN | apply below_drew1 | refine below_set ?_ GE60101.out) | exact HB.out)) hb)
                    clear BK60101
                    clear HB
                    have BK60101 := n0_
                    have HB := n1_
                    clear n0_ n1_
                    (try clear hb)
                    (try clear hb2)
                    (try clear hk)
                    (try clear hi)
                    refine hK.out _ _ ⟨(blk_cell BK60101.out 0).trans rfl, (blk_cell BK60101.out 1).trans rfl, (blk_cell BK60101.out 2).trans rfl, (blk_cell BK60101.out 3).trans rfl, (blk_cell BK60101.out 4).trans rfl, (blk_cell BK60101.out 5).trans rfl, (blk_cell BK60101.out 6).trans rfl⟩ (fun hHeld => ?_)
                    clear hK K
                    refine norm_ (a' := ?_) ?_ ?_
                    rotate_left
                    · show Act.put _ (some 34) _ = _
                      simp only [Act.put, List.setIfInBounds_toArray, List.set_cons_zero, List.set_cons_succ, i64_w, i32_w]
                      rfl
                    refine pure_ (i := 6) (N := some 35) (v := ?_) (a' := ?_) #[true, true, true, true, true, true, true, true, true, false, false, false] rfl rfl (any_of HT_.out (by kernel_rfl)) (fun _ _ _ h => h) (Or.inl ⟨by rfl, ?_⟩) ?_ ?_
                    rotate_left
                    · intro w'
                      go_simp
                      with_reducible rfl
                    rotate_left
                    · simp only [Act.put, List.setIfInBounds_toArray, List.set_cons_zero, List.set_cons_succ, i64_w, i32_w]
                      rfl
                    refine one_ (i := 9) (N := some 38) #[true, true, true, true, true, true, true, true, true, true, false, false] rfl rfl (one_of HT_.out (by kernel_rfl)) (by decide) (fun K hK => ?_)
                    refine goes_ Try.func11 (by kernel_rfl) rfl #[.int .i64 a0_6, .string (⟨#[83]⟩ : ByteArray)] (by rfl) rfl rfl (by (try simp only [List.map_toArray, List.map_cons, List.map_nil]); first | done | rfl | (simp only [List.length_drop, List.length_take]; rfl)) ?_
                    with_reducible refine (larderref03_part.calls k a0_6 (⟨#[83]⟩ : ByteArray) t60109 _ A20.out).mono ?_
                    rintro e w48 ⟨rfl, hb⟩
                    refine ⟨_, rfl, ?_⟩
                    have n0_ := Aside0.mk (blk_below (g := gb60101) (o := .cells #[.int .i64 a0_0, .int .i64 a0_1, .int .i64 a0_2, .int .i64 a0_3, .int .i64 a0_4, .int .i64 a0_5, .int .i64 a0_6] 23 (0, 0)) (by (with_reducible repeat (first | refine blk_drewN ?_ _ | refine blk_drew ?_ | refine blk_alloc ?_ _)); exact BK60101.out) hb)
                    have n1_ := Aside0.mk (below_step (by repeat (first | (with_reducible first | exact HB.out | apply below_alloc | apply pw_below_drewN | apply below_drew1 | refine below_set ?_ GE60101.out) | exact HB.out)) hb)
                    clear BK60101
                    clear HB
                    have BK60101 := n0_
                    have HB := n1_
                    clear n0_ n1_
                    (try clear hb)
                    (try clear hb2)
                    (try clear hk)
                    (try clear hi)
                    refine hK.out _ _ ⟨(blk_cell BK60101.out 0).trans rfl, (blk_cell BK60101.out 1).trans rfl, (blk_cell BK60101.out 2).trans rfl, (blk_cell BK60101.out 3).trans rfl, (blk_cell BK60101.out 4).trans rfl, (blk_cell BK60101.out 5).trans rfl, (blk_cell BK60101.out 6).trans rfl⟩ (fun hHeld => ?_)
                    clear hK K
                    refine norm_ (a' := ?_) ?_ ?_
                    rotate_left
                    · show Act.put _ (some 38) _ = _
                      simp only [Act.put, List.setIfInBounds_toArray, List.set_cons_zero, List.set_cons_succ, i64_w, i32_w]
                      rfl
                    refine pure_ (i := 10) (N := some 39) (v := ?_) (a' := ?_) #[true, true, true, true, true, true, true, true, true, true, true, false] rfl rfl (any_of HT_.out (by kernel_rfl)) (fun _ _ _ h => h) (Or.inl ⟨by rfl, ?_⟩) ?_ ?_
                    rotate_left
                    · intro w'
                      go_simp
                      with_reducible rfl
                    rotate_left
                    · simp only [Act.put, List.setIfInBounds_toArray, List.set_cons_zero, List.set_cons_succ, i64_w, i32_w]
                      rfl
                    refine pure_ (i := 11) (N := some 6) (v := ?_) (a' := ?_) #[true, true, true, true, true, true, true, true, true, true, true, true] rfl rfl (any_of HT_.out (by kernel_rfl)) (fun _ _ _ h => h) (Or.inl ⟨by rfl, ?_⟩) ?_ ?_
                    rotate_left
                    · intro w'
                      go_simp
                      with_reducible rfl
                    rotate_left
                    · simp only [Act.put, List.setIfInBounds_toArray, List.set_cons_zero, List.set_cons_succ, i64_w, i32_w]
                      rfl
                    refine done_ (done_of HT_.out (by kernel_rfl)) ?_
                    try go_wp2
                    go_ret2
                    exact ⟨by first | rfl | (simp [errW_none, errW_some] <;> rfl) | (simp [*, errW_none, errW_some] <;> rfl), by repeat (first | (with_reducible first | exact HB.out | apply below_alloc | apply pw_below_drewN | apply below_drew1 | refine below_set ?_ GE60101.out) | exact HB.out)⟩
                  · rw [if_neg c36] at H
                    exact absurd H (by simp)
              · rw [if_neg c22] at H
                have c22b0 : (((t60107 ++ t60108) ++ t60109).toList == ([] : List UInt8)) = false := beq_eq_false_iff_ne.mpr c22
                have c22b1 : (((t60107 ++ t60108) ++ t60109).toList != ([] : List UInt8)) = true := bne_iff_ne.mpr c22
                by_cases c49 : 1 + (t60104.size + t60105.size + t60106.size) ≤ 9223372036854775807
                · rw [if_pos c49] at H
                  have c49b0 := eq_true c49
                  have c49b1 : decide (1 + (t60104.size + t60105.size + t60106.size) ≤ 9223372036854775807) = true := decide_eq_true c49
                  try have c49b2 : (9223372036854775807 < 1 + (t60104.size + t60105.size + t60106.size)) = False := eq_false (Nat.not_lt.2 c49)
                  by_cases c50 : 1 + (t60104.size + t60105.size + t60106.size) + 1 ≤ 9223372036854775807
                  · rw [if_pos c50] at H
                    have c50b0 := eq_true c50
                    have c50b1 : decide (1 + (t60104.size + t60105.size + t60106.size) + 1 ≤ 9223372036854775807) = true := decide_eq_true c50
                    try have c50b2 : (9223372036854775807 < 1 + (t60104.size + t60105.size + t60106.size) + 1) = False := eq_false (Nat.not_lt.2 c50)
                    by_cases c51 : 1 + (t60104.size + t60105.size + t60106.size) + 1 + (t60107.size + t60108.size + t60109.size) ≤ 9223372036854775807
                    · rw [if_pos c51] at H
                      have c51b0 := eq_true c51
                      have c51b1 : decide (1 + (t60104.size + t60105.size + t60106.size) + 1 + (t60107.size + t60108.size + t60109.size) ≤ 9223372036854775807) = true := decide_eq_true c51
                      try have c51b2 : (9223372036854775807 < 1 + (t60104.size + t60105.size + t60106.size) + 1 + (t60107.size + t60108.size + t60109.size)) = False := eq_false (Nat.not_lt.2 c51)
                      simp only [Option.some.injEq, Prod.mk.injEq] at H
                      obtain ⟨rfl, rfl⟩ := H
                      go_enter Try.func6, Try.ntmps6
                      try go_wp2_with (first | ((with_reducible refine gate_dst (N := 1) rfl ?_); refine box_event ?hg (N := 1) ?hd (cs := #[.int .i64 a0_0, .int .i64 a0_1, .int .i64 a0_2, .int .i64 a0_3, .int .i64 a0_4, .int .i64 a0_5, .int .i64 a0_6]) (t := 23) ?hr ?_; (case hd => rfl); (case hg => rfl); (case hr => first | (go_simp; done) | (go_simp; rfl)); intro gb60101 hg w52 hbox hb; have n0_ := Aside0.mk (below_step (by repeat (first | (with_reducible first | exact HB.out | apply below_alloc | apply pw_below_drewN | apply below_drew1) | exact HB.out)) hb); have n1_ := Aside0.mk (hbox); have n2_ := Aside0.mk ((by rw [hg]; exact (below_size (by repeat (first | (with_reducible first | exact HB.out | apply below_alloc | apply pw_below_drewN | apply below_drew1) | exact HB.out))) : w.heap.size ≤ gb60101)); have n3_ := Aside0.mk ((by rw [hg]; exact (below_size (by repeat (first | (with_reducible first | exact HB.out | apply below_alloc | apply pw_below_drewN | apply below_drew1) | exact HB.out))) : w.heap.size ≤ gb60101)); clear HB; have HB := n0_; have BK60101 := n1_; have GW60101 := n2_; have GE60101 := n3_; clear n0_ n1_ n2_ n3_; clear hb hbox hg; have hcz53_0 : w52.cell? ⟨gb60101, 0, none⟩ = some (.int .i64 a0_0) := (blk_cell BK60101.out 0).trans rfl; have hcz53_1 : w52.cell? ⟨gb60101, 1, none⟩ = some (.int .i64 a0_1) := (blk_cell BK60101.out 1).trans rfl; have hcz53_2 : w52.cell? ⟨gb60101, 2, none⟩ = some (.int .i64 a0_2) := (blk_cell BK60101.out 2).trans rfl; have hcz53_3 : w52.cell? ⟨gb60101, 3, none⟩ = some (.int .i64 a0_3) := (blk_cell BK60101.out 3).trans rfl; have hcz53_4 : w52.cell? ⟨gb60101, 4, none⟩ = some (.int .i64 a0_4) := (blk_cell BK60101.out 4).trans rfl; have hcz53_5 : w52.cell? ⟨gb60101, 5, none⟩ = some (.int .i64 a0_5) := (blk_cell BK60101.out 5).trans rfl; have hcz53_6 : w52.cell? ⟨gb60101, 6, none⟩ = some (.int .i64 a0_6) := (blk_cell BK60101.out 6).trans rfl; have hfz53_0 := blk_frozen BK60101.out 0; have hfz53_1 := blk_frozen BK60101.out 1; have hfz53_2 := blk_frozen BK60101.out 2; have hfz53_3 := blk_frozen BK60101.out 3; have hfz53_4 := blk_frozen BK60101.out 4; have hfz53_5 := blk_frozen BK60101.out 5; have hfz53_6 := blk_frozen BK60101.out 6) | ((with_reducible refine gate_callee (f := 10) rfl ?_); refine goesL_ (some 8) rfl rfl Try.func10 (by kernel_rfl) rfl #[.agg #[.int .i64 a0_0, .int .i64 a0_1, .int .i64 a0_2, .int .i64 a0_3, .int .i64 a0_4, .int .i64 a0_5, .int .i64 a0_6]] rfl (by (try simp only [List.map_toArray, List.map_cons, List.map_nil]); first | done | rfl | (simp only [List.length_drop, List.length_take]; rfl)) ?_; (with_reducible refine (larderref03_fits.calls k a0_0 a0_1 a0_2 a0_3 a0_4 a0_5 a0_6 true _ A2.out).mono ?_); rintro e w54 ⟨rfl, hb⟩; refine ⟨_, rfl, ?_⟩; have n0_ := Aside0.mk (blk_below (g := gb60101) (o := .cells #[.int .i64 a0_0, .int .i64 a0_1, .int .i64 a0_2, .int .i64 a0_3, .int .i64 a0_4, .int .i64 a0_5, .int .i64 a0_6] 23 (0, 0)) (by (with_reducible repeat (first | refine blk_drewN ?_ _ | refine blk_drew ?_ | refine blk_alloc ?_ _)); exact BK60101.out) hb); have n1_ := Aside0.mk (below_step (by repeat (first | (with_reducible first | exact HB.out | apply below_alloc | apply pw_below_drewN | apply below_drew1 | refine below_set ?_ GE60101.out) | exact HB.out)) hb); clear BK60101; clear HB; have BK60101 := n0_; have HB := n1_; clear n0_ n1_; (try clear hb); (try clear hb2); (try clear hk); (try clear hi); have hcz55_0 : w54.cell? ⟨gb60101, 0, none⟩ = some (.int .i64 a0_0) := (blk_cell BK60101.out 0).trans rfl; have hcz55_1 : w54.cell? ⟨gb60101, 1, none⟩ = some (.int .i64 a0_1) := (blk_cell BK60101.out 1).trans rfl; have hcz55_2 : w54.cell? ⟨gb60101, 2, none⟩ = some (.int .i64 a0_2) := (blk_cell BK60101.out 2).trans rfl; have hcz55_3 : w54.cell? ⟨gb60101, 3, none⟩ = some (.int .i64 a0_3) := (blk_cell BK60101.out 3).trans rfl; have hcz55_4 : w54.cell? ⟨gb60101, 4, none⟩ = some (.int .i64 a0_4) := (blk_cell BK60101.out 4).trans rfl; have hcz55_5 : w54.cell? ⟨gb60101, 5, none⟩ = some (.int .i64 a0_5) := (blk_cell BK60101.out 5).trans rfl; have hcz55_6 : w54.cell? ⟨gb60101, 6, none⟩ = some (.int .i64 a0_6) := (blk_cell BK60101.out 6).trans rfl; have hfz55_0 := blk_frozen BK60101.out 0; have hfz55_1 := blk_frozen BK60101.out 1; have hfz55_2 := blk_frozen BK60101.out 2; have hfz55_3 := blk_frozen BK60101.out 3; have hfz55_4 := blk_frozen BK60101.out 4; have hfz55_5 := blk_frozen BK60101.out 5; have hfz55_6 := blk_frozen BK60101.out 6))
                      have n0_ := Aside0.mk (blk_drew BK60101.out)
                      have n1_ := Aside0.mk (below_drew1 HB.out)
                      clear BK60101
                      clear HB
                      have BK60101 := n0_
                      have HB := n1_
                      clear n0_ n1_
                      refine start_ (n := 12) (S := fun w' => w'.cell? ⟨gb60101, 0, none⟩ = some (.int .i64 a0_0) ∧ w'.cell? ⟨gb60101, 1, none⟩ = some (.int .i64 a0_1) ∧ w'.cell? ⟨gb60101, 2, none⟩ = some (.int .i64 a0_2) ∧ w'.cell? ⟨gb60101, 3, none⟩ = some (.int .i64 a0_3) ∧ w'.cell? ⟨gb60101, 4, none⟩ = some (.int .i64 a0_4) ∧ w'.cell? ⟨gb60101, 5, none⟩ = some (.int .i64 a0_5) ∧ w'.cell? ⟨gb60101, 6, none⟩ = some (.int .i64 a0_6)) (ds := []) #[false, false, false, false, false, false, false, false, false, false, false, false] (by kernel_rfl) rfl rfl ⟨(blk_cell BK60101.out 0).trans rfl, (blk_cell BK60101.out 1).trans rfl, (blk_cell BK60101.out 2).trans rfl, (blk_cell BK60101.out 3).trans rfl, (blk_cell BK60101.out 4).trans rfl, (blk_cell BK60101.out 5).trans rfl, (blk_cell BK60101.out 6).trans rfl⟩ (fun hHeld => ?_); refine with_tabW larderref03_PrintSpan.tab6 larderref03_PrintSpan.bits6 (fun HT_ HW_ => ?_)
                      generalize w54.drew = w56 at BK60101 HB hHeld ⊢
                      refine pure_ (i := 0) (N := some 18) (v := ?_) (a' := ?_) #[true, false, false, false, false, false, false, false, false, false, false, false] rfl rfl (any_of HT_.out (by kernel_rfl)) (fun _ _ _ h => h) (Or.inl ⟨by rfl, ?_⟩) ?_ ?_
                      rotate_left
                      · intro w'
                        go_simp
                        with_reducible rfl
                      rotate_left
                      · simp only [Act.put, List.setIfInBounds_toArray, List.set_cons_zero, List.set_cons_succ, i64_w, i32_w]
                        rfl
                      refine pure_ (i := 3) (N := some 21) (v := ?_) (a' := ?_) #[true, false, false, true, false, false, false, false, false, false, false, false] rfl rfl (any_of HT_.out (by kernel_rfl)) (fun _ _ _ h => h) (Or.inl ⟨by rfl, ?_⟩) ?_ ?_
                      rotate_left
                      · intro w'
                        go_simp
                        with_reducible rfl
                      rotate_left
                      · simp only [Act.put, List.setIfInBounds_toArray, List.set_cons_zero, List.set_cons_succ, i64_w, i32_w]
                        rfl
                      refine pure_ (i := 7) (N := some 25) (v := ?_) (a' := ?_) #[true, false, false, true, false, false, false, true, false, false, false, false] rfl rfl (any_of HT_.out (by kernel_rfl)) (fun _ _ _ h => h) (Or.inl ⟨by rfl, ?_⟩) ?_ ?_
                      rotate_left
                      · intro w'
                        go_simp
                        with_reducible rfl
                      rotate_left
                      · simp only [Act.put, List.setIfInBounds_toArray, List.set_cons_zero, List.set_cons_succ, i64_w, i32_w]
                        rfl
                      refine take_ (i := 1) (N := some 19) (v := ?_) (a' := ?_) #[true, true, false, true, false, false, false, true, false, false, false, false] rfl rfl (take_ofW HT_.out HW_.out (by kernel_rfl)) (fun _ _ _ h => h) (Or.inl ⟨by rfl, ?_⟩) hHeld ?_ ?_
                      rotate_left
                      · rintro w' ⟨s0, s1, s2, s3, s4, s5, s6⟩
                        go_simp
                        with_reducible rfl
                      rotate_left
                      · simp only [Act.put, List.setIfInBounds_toArray, List.set_cons_zero, List.set_cons_succ, i64_w, i32_w]
                        rfl
                      refine take_ (i := 4) (N := some 22) (v := ?_) (a' := ?_) #[true, true, false, true, true, false, false, true, false, false, false, false] rfl rfl (take_ofW HT_.out HW_.out (by kernel_rfl)) (fun _ _ _ h => h) (Or.inl ⟨by rfl, ?_⟩) hHeld ?_ ?_
                      rotate_left
                      · rintro w' ⟨s0, s1, s2, s3, s4, s5, s6⟩
                        go_simp
                        with_reducible rfl
                      rotate_left
                      · simp only [Act.put, List.setIfInBounds_toArray, List.set_cons_zero, List.set_cons_succ, i64_w, i32_w]
                        rfl
                      refine take_ (i := 8) (N := some 26) (v := ?_) (a' := ?_) #[true, true, false, true, true, false, false, true, true, false, false, false] rfl rfl (take_ofW HT_.out HW_.out (by kernel_rfl)) (fun _ _ _ h => h) (Or.inl ⟨by rfl, ?_⟩) hHeld ?_ ?_
                      rotate_left
                      · rintro w' ⟨s0, s1, s2, s3, s4, s5, s6⟩
                        go_simp
                        with_reducible rfl
                      rotate_left
                      · simp only [Act.put, List.setIfInBounds_toArray, List.set_cons_zero, List.set_cons_succ, i64_w, i32_w]
                        rfl
                      refine one_ (i := 2) (N := some 20) #[true, true, true, true, true, false, false, true, true, false, false, false] rfl rfl (one_of HT_.out (by kernel_rfl)) (by decide) (fun K hK => ?_)
                      refine goes_ Try.func11 (by kernel_rfl) rfl #[.int .i64 a0_0, .string (⟨#[89]⟩ : ByteArray)] (by rfl) rfl rfl (by (try simp only [List.map_toArray, List.map_cons, List.map_nil]); first | done | rfl | (simp only [List.length_drop, List.length_take]; rfl)) ?_
                      with_reducible refine (larderref03_part.calls k a0_0 (⟨#[89]⟩ : ByteArray) t60104 _ A12.out).mono ?_
                      rintro e w57 ⟨rfl, hb⟩
                      refine ⟨_, rfl, ?_⟩
                      have n0_ := Aside0.mk (blk_below (g := gb60101) (o := .cells #[.int .i64 a0_0, .int .i64 a0_1, .int .i64 a0_2, .int .i64 a0_3, .int .i64 a0_4, .int .i64 a0_5, .int .i64 a0_6] 23 (0, 0)) (by (with_reducible repeat (first | refine blk_drewN ?_ _ | refine blk_drew ?_ | refine blk_alloc ?_ _)); exact BK60101.out) hb)
                      have n1_ := Aside0.mk (below_step (by repeat (first | (with_reducible first | exact HB.out | apply below_alloc | apply pw_below_drewN | apply below_drew1 | refine below_set ?_ GE60101.out) | exact HB.out)) hb)
                      clear BK60101
                      clear HB
                      have BK60101 := n0_
                      have HB := n1_
                      clear n0_ n1_
                      (try clear hb)
                      (try clear hb2)
                      (try clear hk)
                      (try clear hi)
                      refine hK.out _ _ ⟨(blk_cell BK60101.out 0).trans rfl, (blk_cell BK60101.out 1).trans rfl, (blk_cell BK60101.out 2).trans rfl, (blk_cell BK60101.out 3).trans rfl, (blk_cell BK60101.out 4).trans rfl, (blk_cell BK60101.out 5).trans rfl, (blk_cell BK60101.out 6).trans rfl⟩ (fun hHeld => ?_)
                      clear hK K
                      refine norm_ (a' := ?_) ?_ ?_
                      rotate_left
                      · show Act.put _ (some 20) _ = _
                        simp only [Act.put, List.setIfInBounds_toArray, List.set_cons_zero, List.set_cons_succ, i64_w, i32_w]
                        rfl
                      refine one_ (i := 5) (N := some 23) #[true, true, true, true, true, true, false, true, true, false, false, false] rfl rfl (one_of HT_.out (by kernel_rfl)) (by decide) (fun K hK => ?_)
                      refine goes_ Try.func11 (by kernel_rfl) rfl #[.int .i64 a0_1, .string (⟨#[77]⟩ : ByteArray)] (by rfl) rfl rfl (by (try simp only [List.map_toArray, List.map_cons, List.map_nil]); first | done | rfl | (simp only [List.length_drop, List.length_take]; rfl)) ?_
                      with_reducible refine (larderref03_part.calls k a0_1 (⟨#[77]⟩ : ByteArray) t60105 _ A13.out).mono ?_
                      rintro e w58 ⟨rfl, hb⟩
                      refine ⟨_, rfl, ?_⟩
                      have n0_ := Aside0.mk (blk_below (g := gb60101) (o := .cells #[.int .i64 a0_0, .int .i64 a0_1, .int .i64 a0_2, .int .i64 a0_3, .int .i64 a0_4, .int .i64 a0_5, .int .i64 a0_6] 23 (0, 0)) (by (with_reducible repeat (first | refine blk_drewN ?_ _ | refine blk_drew ?_ | refine blk_alloc ?_ _)); exact BK60101.out) hb)
                      have n1_ := Aside0.mk (below_step (by repeat (first | (with_reducible first | exact HB.out | apply below_alloc | apply pw_below_drewN | apply below_drew1 | refine below_set ?_ GE60101.out) | exact HB.out)) hb)
                      clear BK60101
                      clear HB
                      have BK60101 := n0_
                      have HB := n1_
                      clear n0_ n1_
                      (try clear hb)
                      (try clear hb2)
                      (try clear hk)
                      (try clear hi)
                      refine hK.out _ _ ⟨(blk_cell BK60101.out 0).trans rfl, (blk_cell BK60101.out 1).trans rfl, (blk_cell BK60101.out 2).trans rfl, (blk_cell BK60101.out 3).trans rfl, (blk_cell BK60101.out 4).trans rfl, (blk_cell BK60101.out 5).trans rfl, (blk_cell BK60101.out 6).trans rfl⟩ (fun hHeld => ?_)
                      clear hK K
                      refine norm_ (a' := ?_) ?_ ?_
                      rotate_left
                      · show Act.put _ (some 23) _ = _
                        simp only [Act.put, List.setIfInBounds_toArray, List.set_cons_zero, List.set_cons_succ, i64_w, i32_w]
                        rfl
                      refine pure_ (i := 6) (N := some 24) (v := ?_) (a' := ?_) #[true, true, true, true, true, true, true, true, true, false, false, false] rfl rfl (any_of HT_.out (by kernel_rfl)) (fun _ _ _ h => h) (Or.inl ⟨by rfl, ?_⟩) ?_ ?_
                      rotate_left
                      · intro w'
                        go_simp
                        with_reducible rfl
                      rotate_left
                      · simp only [Act.put, List.setIfInBounds_toArray, List.set_cons_zero, List.set_cons_succ, i64_w, i32_w]
                        rfl
                      refine one_ (i := 9) (N := some 27) #[true, true, true, true, true, true, true, true, true, true, false, false] rfl rfl (one_of HT_.out (by kernel_rfl)) (by decide) (fun K hK => ?_)
                      refine goes_ Try.func11 (by kernel_rfl) rfl #[.int .i64 a0_3, .string (⟨#[68]⟩ : ByteArray)] (by rfl) rfl rfl (by (try simp only [List.map_toArray, List.map_cons, List.map_nil]); first | done | rfl | (simp only [List.length_drop, List.length_take]; rfl)) ?_
                      with_reducible refine (larderref03_part.calls k a0_3 (⟨#[68]⟩ : ByteArray) t60106 _ A15.out).mono ?_
                      rintro e w59 ⟨rfl, hb⟩
                      refine ⟨_, rfl, ?_⟩
                      have n0_ := Aside0.mk (blk_below (g := gb60101) (o := .cells #[.int .i64 a0_0, .int .i64 a0_1, .int .i64 a0_2, .int .i64 a0_3, .int .i64 a0_4, .int .i64 a0_5, .int .i64 a0_6] 23 (0, 0)) (by (with_reducible repeat (first | refine blk_drewN ?_ _ | refine blk_drew ?_ | refine blk_alloc ?_ _)); exact BK60101.out) hb)
                      have n1_ := Aside0.mk (below_step (by repeat (first | (with_reducible first | exact HB.out | apply below_alloc | apply pw_below_drewN | apply below_drew1 | refine below_set ?_ GE60101.out) | exact HB.out)) hb)
                      clear BK60101
                      clear HB
                      have BK60101 := n0_
                      have HB := n1_
                      clear n0_ n1_
                      (try clear hb)
                      (try clear hb2)
                      (try clear hk)
                      (try clear hi)
                      refine hK.out _ _ ⟨(blk_cell BK60101.out 0).trans rfl, (blk_cell BK60101.out 1).trans rfl, (blk_cell BK60101.out 2).trans rfl, (blk_cell BK60101.out 3).trans rfl, (blk_cell BK60101.out 4).trans rfl, (blk_cell BK60101.out 5).trans rfl, (blk_cell BK60101.out 6).trans rfl⟩ (fun hHeld => ?_)
                      clear hK K
                      refine norm_ (a' := ?_) ?_ ?_
                      rotate_left
                      · show Act.put _ (some 27) _ = _
                        simp only [Act.put, List.setIfInBounds_toArray, List.set_cons_zero, List.set_cons_succ, i64_w, i32_w]
                        rfl
                      refine pure_ (i := 10) (N := some 28) (v := ?_) (a' := ?_) #[true, true, true, true, true, true, true, true, true, true, true, false] rfl rfl (any_of HT_.out (by kernel_rfl)) (fun _ _ _ h => h) (Or.inl ⟨by rfl, ?_⟩) ?_ ?_
                      rotate_left
                      · intro w'
                        go_simp
                        with_reducible rfl
                      rotate_left
                      · simp only [Act.put, List.setIfInBounds_toArray, List.set_cons_zero, List.set_cons_succ, i64_w, i32_w]
                        rfl
                      refine pure_ (i := 11) (N := some 5) (v := ?_) (a' := ?_) #[true, true, true, true, true, true, true, true, true, true, true, true] rfl rfl (any_of HT_.out (by kernel_rfl)) (fun _ _ _ h => h) (Or.inl ⟨by rfl, ?_⟩) ?_ ?_
                      rotate_left
                      · intro w'
                        go_simp
                        with_reducible rfl
                      rotate_left
                      · simp only [Act.put, List.setIfInBounds_toArray, List.set_cons_zero, List.set_cons_succ, i64_w, i32_w]
                        rfl
                      refine done_ (done_of HT_.out (by kernel_rfl)) ?_
                      try go_wp2
                      have n0_ := Aside0.mk (blk_drew BK60101.out)
                      have n1_ := Aside0.mk (below_drew1 HB.out)
                      clear BK60101
                      clear HB
                      have BK60101 := n0_
                      have HB := n1_
                      clear n0_ n1_
                      refine start_ (n := 12) (S := fun w' => w'.cell? ⟨gb60101, 0, none⟩ = some (.int .i64 a0_0) ∧ w'.cell? ⟨gb60101, 1, none⟩ = some (.int .i64 a0_1) ∧ w'.cell? ⟨gb60101, 2, none⟩ = some (.int .i64 a0_2) ∧ w'.cell? ⟨gb60101, 3, none⟩ = some (.int .i64 a0_3) ∧ w'.cell? ⟨gb60101, 4, none⟩ = some (.int .i64 a0_4) ∧ w'.cell? ⟨gb60101, 5, none⟩ = some (.int .i64 a0_5) ∧ w'.cell? ⟨gb60101, 6, none⟩ = some (.int .i64 a0_6)) (ds := []) #[false, false, false, false, false, false, false, false, false, false, false, false] (by kernel_rfl) rfl rfl ⟨(blk_cell BK60101.out 0).trans rfl, (blk_cell BK60101.out 1).trans rfl, (blk_cell BK60101.out 2).trans rfl, (blk_cell BK60101.out 3).trans rfl, (blk_cell BK60101.out 4).trans rfl, (blk_cell BK60101.out 5).trans rfl, (blk_cell BK60101.out 6).trans rfl⟩ (fun hHeld => ?_); refine with_tabW larderref03_PrintSpan.tab7 larderref03_PrintSpan.bits7 (fun HT_ HW_ => ?_)
                      generalize w59.drew = w60 at BK60101 HB hHeld ⊢
                      refine pure_ (i := 0) (N := some 29) (v := ?_) (a' := ?_) #[true, false, false, false, false, false, false, false, false, false, false, false] rfl rfl (any_of HT_.out (by kernel_rfl)) (fun _ _ _ h => h) (Or.inl ⟨by rfl, ?_⟩) ?_ ?_
                      rotate_left
                      · intro w'
                        go_simp
                        with_reducible rfl
                      rotate_left
                      · simp only [Act.put, List.setIfInBounds_toArray, List.set_cons_zero, List.set_cons_succ, i64_w, i32_w]
                        rfl
                      refine pure_ (i := 3) (N := some 32) (v := ?_) (a' := ?_) #[true, false, false, true, false, false, false, false, false, false, false, false] rfl rfl (any_of HT_.out (by kernel_rfl)) (fun _ _ _ h => h) (Or.inl ⟨by rfl, ?_⟩) ?_ ?_
                      rotate_left
                      · intro w'
                        go_simp
                        with_reducible rfl
                      rotate_left
                      · simp only [Act.put, List.setIfInBounds_toArray, List.set_cons_zero, List.set_cons_succ, i64_w, i32_w]
                        rfl
                      refine pure_ (i := 7) (N := some 36) (v := ?_) (a' := ?_) #[true, false, false, true, false, false, false, true, false, false, false, false] rfl rfl (any_of HT_.out (by kernel_rfl)) (fun _ _ _ h => h) (Or.inl ⟨by rfl, ?_⟩) ?_ ?_
                      rotate_left
                      · intro w'
                        go_simp
                        with_reducible rfl
                      rotate_left
                      · simp only [Act.put, List.setIfInBounds_toArray, List.set_cons_zero, List.set_cons_succ, i64_w, i32_w]
                        rfl
                      refine take_ (i := 1) (N := some 30) (v := ?_) (a' := ?_) #[true, true, false, true, false, false, false, true, false, false, false, false] rfl rfl (take_ofW HT_.out HW_.out (by kernel_rfl)) (fun _ _ _ h => h) (Or.inl ⟨by rfl, ?_⟩) hHeld ?_ ?_
                      rotate_left
                      · rintro w' ⟨s0, s1, s2, s3, s4, s5, s6⟩
                        go_simp
                        with_reducible rfl
                      rotate_left
                      · simp only [Act.put, List.setIfInBounds_toArray, List.set_cons_zero, List.set_cons_succ, i64_w, i32_w]
                        rfl
                      refine take_ (i := 4) (N := some 33) (v := ?_) (a' := ?_) #[true, true, false, true, true, false, false, true, false, false, false, false] rfl rfl (take_ofW HT_.out HW_.out (by kernel_rfl)) (fun _ _ _ h => h) (Or.inl ⟨by rfl, ?_⟩) hHeld ?_ ?_
                      rotate_left
                      · rintro w' ⟨s0, s1, s2, s3, s4, s5, s6⟩
                        go_simp
                        with_reducible rfl
                      rotate_left
                      · simp only [Act.put, List.setIfInBounds_toArray, List.set_cons_zero, List.set_cons_succ, i64_w, i32_w]
                        rfl
                      refine take_ (i := 8) (N := some 37) (v := ?_) (a' := ?_) #[true, true, false, true, true, false, false, true, true, false, false, false] rfl rfl (take_ofW HT_.out HW_.out (by kernel_rfl)) (fun _ _ _ h => h) (Or.inl ⟨by rfl, ?_⟩) hHeld ?_ ?_
                      rotate_left
                      · rintro w' ⟨s0, s1, s2, s3, s4, s5, s6⟩
                        go_simp
                        with_reducible rfl
                      rotate_left
                      · simp only [Act.put, List.setIfInBounds_toArray, List.set_cons_zero, List.set_cons_succ, i64_w, i32_w]
                        rfl
                      refine one_ (i := 2) (N := some 31) #[true, true, true, true, true, false, false, true, true, false, false, false] rfl rfl (one_of HT_.out (by kernel_rfl)) (by decide) (fun K hK => ?_)
                      refine goes_ Try.func11 (by kernel_rfl) rfl #[.int .i64 a0_4, .string (⟨#[72]⟩ : ByteArray)] (by rfl) rfl rfl (by (try simp only [List.map_toArray, List.map_cons, List.map_nil]); first | done | rfl | (simp only [List.length_drop, List.length_take]; rfl)) ?_
                      with_reducible refine (larderref03_part.calls k a0_4 (⟨#[72]⟩ : ByteArray) t60107 _ A17.out).mono ?_
                      rintro e w61 ⟨rfl, hb⟩
                      refine ⟨_, rfl, ?_⟩
                      have n0_ := Aside0.mk (blk_below (g := gb60101) (o := .cells #[.int .i64 a0_0, .int .i64 a0_1, .int .i64 a0_2, .int .i64 a0_3, .int .i64 a0_4, .int .i64 a0_5, .int .i64 a0_6] 23 (0, 0)) (by (with_reducible repeat (first | refine blk_drewN ?_ _ | refine blk_drew ?_ | refine blk_alloc ?_ _)); exact BK60101.out) hb)
                      have n1_ := Aside0.mk (below_step (by repeat (first | (with_reducible first | exact HB.out | apply below_alloc | apply pw_below_drewN | apply below_drew1 | refine below_set ?_ GE60101.out) | exact HB.out)) hb)
                      clear BK60101
                      clear HB
                      have BK60101 := n0_
                      have HB := n1_
                      clear n0_ n1_
                      (try clear hb)
                      (try clear hb2)
                      (try clear hk)
                      (try clear hi)
                      refine hK.out _ _ ⟨(blk_cell BK60101.out 0).trans rfl, (blk_cell BK60101.out 1).trans rfl, (blk_cell BK60101.out 2).trans rfl, (blk_cell BK60101.out 3).trans rfl, (blk_cell BK60101.out 4).trans rfl, (blk_cell BK60101.out 5).trans rfl, (blk_cell BK60101.out 6).trans rfl⟩ (fun hHeld => ?_)
                      clear hK K
                      refine norm_ (a' := ?_) ?_ ?_
                      rotate_left
                      · show Act.put _ (some 31) _ = _
                        simp only [Act.put, List.setIfInBounds_toArray, List.set_cons_zero, List.set_cons_succ, i64_w, i32_w]
                        rfl
                      refine one_ (i := 5) (N := some 34) #[true, true, true, true, true, true, false, true, true, false, false, false] rfl rfl (one_of HT_.out (by kernel_rfl)) (by decide) (fun K hK => ?_)
                      refine goes_ Try.func11 (by kernel_rfl) rfl #[.int .i64 a0_5, .string (⟨#[77]⟩ : ByteArray)] (by rfl) rfl rfl (by (try simp only [List.map_toArray, List.map_cons, List.map_nil]); first | done | rfl | (simp only [List.length_drop, List.length_take]; rfl)) ?_
                      with_reducible refine (larderref03_part.calls k a0_5 (⟨#[77]⟩ : ByteArray) t60108 _ A18.out).mono ?_
                      rintro e w62 ⟨rfl, hb⟩
                      refine ⟨_, rfl, ?_⟩
                      have n0_ := Aside0.mk (blk_below (g := gb60101) (o := .cells #[.int .i64 a0_0, .int .i64 a0_1, .int .i64 a0_2, .int .i64 a0_3, .int .i64 a0_4, .int .i64 a0_5, .int .i64 a0_6] 23 (0, 0)) (by (with_reducible repeat (first | refine blk_drewN ?_ _ | refine blk_drew ?_ | refine blk_alloc ?_ _)); exact BK60101.out) hb)
                      have n1_ := Aside0.mk (below_step (by repeat (first | (with_reducible first | exact HB.out | apply below_alloc | apply pw_below_drewN | apply below_drew1 | refine below_set ?_ GE60101.out) | exact HB.out)) hb)
                      clear BK60101
                      clear HB
                      have BK60101 := n0_
                      have HB := n1_
                      clear n0_ n1_
                      (try clear hb)
                      (try clear hb2)
                      (try clear hk)
                      (try clear hi)
                      refine hK.out _ _ ⟨(blk_cell BK60101.out 0).trans rfl, (blk_cell BK60101.out 1).trans rfl, (blk_cell BK60101.out 2).trans rfl, (blk_cell BK60101.out 3).trans rfl, (blk_cell BK60101.out 4).trans rfl, (blk_cell BK60101.out 5).trans rfl, (blk_cell BK60101.out 6).trans rfl⟩ (fun hHeld => ?_)
                      clear hK K
                      refine norm_ (a' := ?_) ?_ ?_
                      rotate_left
                      · show Act.put _ (some 34) _ = _
                        simp only [Act.put, List.setIfInBounds_toArray, List.set_cons_zero, List.set_cons_succ, i64_w, i32_w]
                        rfl
                      refine pure_ (i := 6) (N := some 35) (v := ?_) (a' := ?_) #[true, true, true, true, true, true, true, true, true, false, false, false] rfl rfl (any_of HT_.out (by kernel_rfl)) (fun _ _ _ h => h) (Or.inl ⟨by rfl, ?_⟩) ?_ ?_
                      rotate_left
                      · intro w'
                        go_simp
                        with_reducible rfl
                      rotate_left
                      · simp only [Act.put, List.setIfInBounds_toArray, List.set_cons_zero, List.set_cons_succ, i64_w, i32_w]
                        rfl
                      refine one_ (i := 9) (N := some 38) #[true, true, true, true, true, true, true, true, true, true, false, false] rfl rfl (one_of HT_.out (by kernel_rfl)) (by decide) (fun K hK => ?_)
                      refine goes_ Try.func11 (by kernel_rfl) rfl #[.int .i64 a0_6, .string (⟨#[83]⟩ : ByteArray)] (by rfl) rfl rfl (by (try simp only [List.map_toArray, List.map_cons, List.map_nil]); first | done | rfl | (simp only [List.length_drop, List.length_take]; rfl)) ?_
                      with_reducible refine (larderref03_part.calls k a0_6 (⟨#[83]⟩ : ByteArray) t60109 _ A20.out).mono ?_
                      rintro e w63 ⟨rfl, hb⟩
                      refine ⟨_, rfl, ?_⟩
                      have n0_ := Aside0.mk (blk_below (g := gb60101) (o := .cells #[.int .i64 a0_0, .int .i64 a0_1, .int .i64 a0_2, .int .i64 a0_3, .int .i64 a0_4, .int .i64 a0_5, .int .i64 a0_6] 23 (0, 0)) (by (with_reducible repeat (first | refine blk_drewN ?_ _ | refine blk_drew ?_ | refine blk_alloc ?_ _)); exact BK60101.out) hb)
                      have n1_ := Aside0.mk (below_step (by repeat (first | (with_reducible first | exact HB.out | apply below_alloc | apply pw_below_drewN | apply below_drew1 | refine below_set ?_ GE60101.out) | exact HB.out)) hb)
                      clear BK60101
                      clear HB
                      have BK60101 := n0_
                      have HB := n1_
                      clear n0_ n1_
                      (try clear hb)
                      (try clear hb2)
                      (try clear hk)
                      (try clear hi)
                      refine hK.out _ _ ⟨(blk_cell BK60101.out 0).trans rfl, (blk_cell BK60101.out 1).trans rfl, (blk_cell BK60101.out 2).trans rfl, (blk_cell BK60101.out 3).trans rfl, (blk_cell BK60101.out 4).trans rfl, (blk_cell BK60101.out 5).trans rfl, (blk_cell BK60101.out 6).trans rfl⟩ (fun hHeld => ?_)
                      clear hK K
                      refine norm_ (a' := ?_) ?_ ?_
                      rotate_left
                      · show Act.put _ (some 38) _ = _
                        simp only [Act.put, List.setIfInBounds_toArray, List.set_cons_zero, List.set_cons_succ, i64_w, i32_w]
                        rfl
                      refine pure_ (i := 10) (N := some 39) (v := ?_) (a' := ?_) #[true, true, true, true, true, true, true, true, true, true, true, false] rfl rfl (any_of HT_.out (by kernel_rfl)) (fun _ _ _ h => h) (Or.inl ⟨by rfl, ?_⟩) ?_ ?_
                      rotate_left
                      · intro w'
                        go_simp
                        with_reducible rfl
                      rotate_left
                      · simp only [Act.put, List.setIfInBounds_toArray, List.set_cons_zero, List.set_cons_succ, i64_w, i32_w]
                        rfl
                      refine pure_ (i := 11) (N := some 6) (v := ?_) (a' := ?_) #[true, true, true, true, true, true, true, true, true, true, true, true] rfl rfl (any_of HT_.out (by kernel_rfl)) (fun _ _ _ h => h) (Or.inl ⟨by rfl, ?_⟩) ?_ ?_
                      rotate_left
                      · intro w'
                        go_simp
                        with_reducible rfl
                      rotate_left
                      · simp only [Act.put, List.setIfInBounds_toArray, List.set_cons_zero, List.set_cons_succ, i64_w, i32_w]
                        rfl
                      refine done_ (done_of HT_.out (by kernel_rfl)) ?_
                      try go_wp2
                      go_ret2
                      exact ⟨by first | rfl | (simp [errW_none, errW_some] <;> rfl) | (simp [*, errW_none, errW_some] <;> rfl), by repeat (first | (with_reducible first | exact HB.out | apply below_alloc | apply pw_below_drewN | apply below_drew1 | refine below_set ?_ GE60101.out) | exact HB.out)⟩
                    · rw [if_neg c51] at H
                      exact absurd H (by simp)
                  · rw [if_neg c50] at H
                    exact absurd H (by simp)
                · rw [if_neg c49] at H
                  exact absurd H (by simp)
            · rw [if_neg c21] at H
              exact absurd H (by simp)
          · rw [if_neg c19] at H
            exact absurd H (by simp)
        · rw [if_neg c16] at H
          exact absurd H (by simp)
      · rw [if_neg c14] at H
        exact absurd H (by simp)
  · replace c3 := Bool.eq_false_iff.mpr c3
    subst c3
    have H1 : (some ((⟨#[]⟩ : ByteArray), 34)) = some (r1, r2) := by rw [if_neg (show ¬ (false = true) by decide)] at H; exact H
    clear H
    have H := H1
    clear H1
    simp only [Option.some.injEq, Prod.mk.injEq] at H
    obtain ⟨rfl, rfl⟩ := H
    go_enter Try.func6, Try.ntmps6
    go_wp2_with (first | ((with_reducible refine gate_dst (N := 1) rfl ?_); refine box_event ?hg (N := 1) ?hd (cs := #[.int .i64 a0_0, .int .i64 a0_1, .int .i64 a0_2, .int .i64 a0_3, .int .i64 a0_4, .int .i64 a0_5, .int .i64 a0_6]) (t := 23) ?hr ?_; (case hd => rfl); (case hg => rfl); (case hr => first | (go_simp; done) | (go_simp; rfl)); intro gb60101 hg w64 hbox hb; have n0_ := Aside0.mk (below_step (by repeat (first | (with_reducible first | exact HB.out | apply below_alloc | apply pw_below_drewN | apply below_drew1) | exact HB.out)) hb); have n1_ := Aside0.mk (hbox); have n2_ := Aside0.mk ((by rw [hg]; exact (below_size (by repeat (first | (with_reducible first | exact HB.out | apply below_alloc | apply pw_below_drewN | apply below_drew1) | exact HB.out))) : w.heap.size ≤ gb60101)); have n3_ := Aside0.mk ((by rw [hg]; exact (below_size (by repeat (first | (with_reducible first | exact HB.out | apply below_alloc | apply pw_below_drewN | apply below_drew1) | exact HB.out))) : w.heap.size ≤ gb60101)); clear HB; have HB := n0_; have BK60101 := n1_; have GW60101 := n2_; have GE60101 := n3_; clear n0_ n1_ n2_ n3_; clear hb hbox hg; have hcz65_0 : w64.cell? ⟨gb60101, 0, none⟩ = some (.int .i64 a0_0) := (blk_cell BK60101.out 0).trans rfl; have hcz65_1 : w64.cell? ⟨gb60101, 1, none⟩ = some (.int .i64 a0_1) := (blk_cell BK60101.out 1).trans rfl; have hcz65_2 : w64.cell? ⟨gb60101, 2, none⟩ = some (.int .i64 a0_2) := (blk_cell BK60101.out 2).trans rfl; have hcz65_3 : w64.cell? ⟨gb60101, 3, none⟩ = some (.int .i64 a0_3) := (blk_cell BK60101.out 3).trans rfl; have hcz65_4 : w64.cell? ⟨gb60101, 4, none⟩ = some (.int .i64 a0_4) := (blk_cell BK60101.out 4).trans rfl; have hcz65_5 : w64.cell? ⟨gb60101, 5, none⟩ = some (.int .i64 a0_5) := (blk_cell BK60101.out 5).trans rfl; have hcz65_6 : w64.cell? ⟨gb60101, 6, none⟩ = some (.int .i64 a0_6) := (blk_cell BK60101.out 6).trans rfl; have hfz65_0 := blk_frozen BK60101.out 0; have hfz65_1 := blk_frozen BK60101.out 1; have hfz65_2 := blk_frozen BK60101.out 2; have hfz65_3 := blk_frozen BK60101.out 3; have hfz65_4 := blk_frozen BK60101.out 4; have hfz65_5 := blk_frozen BK60101.out 5; have hfz65_6 := blk_frozen BK60101.out 6) | ((with_reducible refine gate_callee (f := 10) rfl ?_); refine goesL_ (some 8) rfl rfl Try.func10 (by kernel_rfl) rfl #[.agg #[.int .i64 a0_0, .int .i64 a0_1, .int .i64 a0_2, .int .i64 a0_3, .int .i64 a0_4, .int .i64 a0_5, .int .i64 a0_6]] rfl (by (try simp only [List.map_toArray, List.map_cons, List.map_nil]); first | done | rfl | (simp only [List.length_drop, List.length_take]; rfl)) ?_; (with_reducible refine (larderref03_fits.calls k a0_0 a0_1 a0_2 a0_3 a0_4 a0_5 a0_6 false _ A2.out).mono ?_); rintro e w66 ⟨rfl, hb⟩; refine ⟨_, rfl, ?_⟩; have n0_ := Aside0.mk (blk_below (g := gb60101) (o := .cells #[.int .i64 a0_0, .int .i64 a0_1, .int .i64 a0_2, .int .i64 a0_3, .int .i64 a0_4, .int .i64 a0_5, .int .i64 a0_6] 23 (0, 0)) (by (with_reducible repeat (first | refine blk_drewN ?_ _ | refine blk_drew ?_ | refine blk_alloc ?_ _)); exact BK60101.out) hb); have n1_ := Aside0.mk (below_step (by repeat (first | (with_reducible first | exact HB.out | apply below_alloc | apply pw_below_drewN | apply below_drew1 | refine below_set ?_ GE60101.out) | exact HB.out)) hb); clear BK60101; clear HB; have BK60101 := n0_; have HB := n1_; clear n0_ n1_; (try clear hb); (try clear hb2); (try clear hk); (try clear hi)))
    go_ret2
    exact ⟨by first | rfl | (simp [errW_none, errW_some] <;> rfl) | (simp [*, errW_none, errW_some] <;> rfl), by repeat (first | (with_reducible first | exact HB.out | apply below_alloc | apply pw_below_drewN | apply below_drew1 | refine below_set ?_ GE60101.out) | exact HB.out)⟩

end Go.Proofs.Ytofafljfabgpmaa.GC
