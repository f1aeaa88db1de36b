/- What cal's ParseDate answers, proved by walking its text, form by form. (Written by wip/gen/gen_date.py.) · What cal's ParseDate answers, proved by walking its text, form by form. (Written by wip/gen/gen_date.py.) · What cal's ParseDate answers, proved by walking its text, form by form. (Written by wip/gen/gen_date.py.) · What cal's ParseDate answers, in one statement. -/
import Derived.Test.YtiklakkkgmilnaaDoorCalDateB
import Derived.Laws.EntriesVeiled
set_option linter.unusedVariables false
set_option linter.unusedSimpArgs false
namespace Go.Proofs.YtiklakkkgmilnaaDoor.Ext
open Go.RowKit Go.Proofs.YtiklakkkgmilnaaDoorW.PrintWords Go.Proofs.YtiklakkkgmilnaaDoor.PCal Go.Proofs.YtiklakkkgmilnaaDoor.CalP Go.Proofs.YtiklakkkgmilnaaDoor.GC

theorem blk_new1 (w : World) (A B : Obj) : ((w.alloc A).alloc B).heap[w.heap.size + 1]? = some B := by
  have e : (w.alloc A).heap.size = w.heap.size + 1 := by simp
  rw [← e]; exact blk_new _ _
theorem blk_new2 (w : World) (A B C : Obj) : (((w.alloc A).alloc B).alloc C).heap[w.heap.size + 2]? = some C := by
  have e : ((w.alloc A).alloc B).heap.size = w.heap.size + 2 := by simp
  rw [← e]; exact blk_new _ _
abbrev Z3 : Obj := .cells #[.int .i64 0, .int .i64 0, .int .i64 0] 23
set_option maxRecDepth 100000 in
set_option maxHeartbeats 4000000 in
theorem pd_0_ok (s : ByteArray) (w : World) (hG : GlobOk w) (hs : s.size = 10) (hsh : shp s SH 0 0 = (0, 0)) (hf : fit s ⟨#[100, 100, 100, 100, 45, 100, 100, 45, 100, 100]⟩ = 10) (h0 : (1 ≤ (nmv s 5 2) ∧ (nmv s 5 2) ≤ 12)) (h1 : (1 ≤ (nmv s 8 2) ∧ (nmv s 8 2) ≤ dim (nmv s 0 4) (nmv s 5 2))) :
    Calls Tryd.prog 21 #[.string s] w fun e w' => e = .returned (.tuple #[V3 (nmv s 0 4) (nmv s 5 2) (nmv s 8 2), .int .i64 0, .int .i64 0]) ∧ Below w.heap.size w w' := by
  have HS := Lib.hid (fun W g => shape_call s W g 0 0 hsh)
  have dg0 := dig_of hf 0 4 (by decide) (by decide)
  have HN := Lib.hid (num_call s 0 4 (by decide) (by omega) (by decide) dg0)
  have ybd := nmv_bd s 0 4 (fun j j1 j2 => dg0 j j1 j2)
  have ybd2 : 0 ≤ (nmv s 0 4) ∧ (nmv s 0 4) ≤ 9999 := by omega
  have dg1 := dig_of hf 5 7 (by decide) (by decide)
  have HN0 := Lib.hid (num_call s 5 7 (by decide) (by omega) (by decide) dg1)
  have bd0 := nmv_bd s 5 2 (fun j j1 j2 => dg1 j j1 j2)
  have dg2 := dig_of hf 8 10 (by decide) (by decide)
  have HN1 := Lib.hid (num_call s 8 10 (by decide) (by omega) (by decide) dg2)
  have bd1 := nmv_bd s 8 2 (fun j j1 j2 => dg2 j j1 j2)
  have hl : 10 ≤ s.size := by omega
  have hu : s.size ≤ 10 := by omega
  have HG := Lib.hid hG
  have HB0 := Lib.hid (decide_eq_true h0)
  have HC0 : Hid (∀ W, Calls Tryd.prog 77 #[V3 (nmv s 0 4) (nmv s 5 2) 0] W fun e w' => e = .returned (.bool true) ∧ Below W.heap.size W w') := by
    intro W; have := (fun W => month_any (nmv s 0 4) (nmv s 5 2) 0 W) W; rw [HB0.out] at this; exact this
  have HB1 := Lib.hid (decide_eq_true h1)
  have HC1 : Hid (∀ W, GlobOk W → Calls Tryd.prog 78 #[V3 (nmv s 0 4) (nmv s 5 2) (nmv s 8 2)] W fun e w' => e = .returned (.bool true) ∧ Below W.heap.size W w') := by
    intro W hW; have := (fun W hW => day_any (nmv s 0 4) (nmv s 5 2) (nmv s 8 2) W hW h0) W hW; rw [HB1.out] at this; exact this
  have HM : Hid (∀ W, Calls Tryd.prog 83 #[V3 (nmv s 0 4) (nmv s 5 2) (nmv s 8 2)] W fun e w' => e = .returned (.tuple #[V3 (nmv s 0 4) (nmv s 5 2) (nmv s 8 2), .int .i64 0]) ∧ Below W.heap.size W w') := fun W => byMonth_any _ _ _ W
  clear h0 h1 ybd ybd2 dg0 dg1 bd0 dg2 bd1 hs hsh hf hG
  generalize (nmv s 0 4) = y at *
  generalize (nmv s 5 2) = a at *
  generalize (nmv s 8 2) = b at *
  go_enter Tryd.func21, Tryd.ntmps21
  go_wp2_with (first | (go_at_call 42; (refine (HS.out ((w.alloc Z3).alloc (.cells (SH.map Value.string).toArray 9)) (w.heap.size + 1) (blk_new1 w _ _)).mono ?_); rintro e w1 ⟨rfl, hb1⟩; have HX1 := Lib.hid hb1; have hz1 : w.heap.size + 2 ≤ w1.heap.size := (by have := hb1.size; simp at this; omega); have hT1 : w1.heap[w.heap.size]? = some Z3 := (hb1.block _ (by first | omega | (simp; done) | (simp; omega))).trans (blk_alloc (blk_new w _) _); have HT1 := Lib.hid hT1; clear hb1 hT1) | (go_at_call 43; (with_reducible refine (HN.out _).mono ?_); rintro e w2 ⟨rfl, hb2⟩; have hz2 : w1.heap.size ≤ w2.heap.size := hb2.size; have HT2 := Lib.hid ((hb2.block _ (by omega)).trans HT1.out); have HX2 := Lib.hid (((((Below.refl _ w).alloc (Nat.le_refl _) _).alloc (by first | omega | (simp; done) | (simp; omega)) _).trans (HX1.out.mono (by first | omega | (simp; done) | (simp; omega)))).trans (hb2.mono (by omega))); clear hb2) | (go_at_call 44; (refine (parts_0 _).mono ?_); rintro e w3 ⟨rfl, rfl⟩))
  refine wp_loop_rounds 3 ?_
  rw [rounds_succ]
  go_wp2_with (first | (go_at_call 43; (with_reducible refine (HN0.out _).mono ?_); rintro e wn0 ⟨rfl, hbn0⟩; have hzn0 : w2.heap.size + 2 < wn0.heap.size := (by have := hbn0.size; simp at this; omega); have hTn0 : wn0.heap[w.heap.size]? = some Z3 := (hbn0.block _ (by first | omega | (simp; done) | (simp; omega))).trans (blk_alloc (blk_alloc (blk_alloc (HT2.out) _) _) _); have hVn0 : wn0.heap[w2.heap.size]? = some (.cells #[.int .i64 y, .int .i64 0, .int .i64 0] 73 (0, 0)) := (hbn0.block _ (by first | omega | (simp; done) | (simp; omega))).trans (blk_alloc (blk_alloc (blk_new w2 _) _) _); have hPn0 : wn0.heap[w2.heap.size + 1]? = some PC0 := (hbn0.block _ (by first | omega | (simp; done) | (simp; omega))).trans (blk_alloc (blk_new1 w2 _ _) _); have hBn0 : wn0.heap[w2.heap.size + 2]? = some (.cells #[.int .i64 5, .int .i64 7, .func (.func 77) #[] #[]] 80 (0, 0)) := (hbn0.block _ (by first | omega | (simp; done) | (simp; omega))).trans (blk_new2 w2 _ _ _); have v0c0 : wn0.cell? ⟨w2.heap.size, 0, none⟩ = some (.int .i64 y) := (blk_cell hVn0 0).trans rfl; have v0c1 : wn0.cell? ⟨w2.heap.size, 1, none⟩ = some (.int .i64 0) := (blk_cell hVn0 1).trans rfl; have v0c2 : wn0.cell? ⟨w2.heap.size, 2, none⟩ = some (.int .i64 0) := (blk_cell hVn0 2).trans rfl; have v0f0 := blk_frozen hVn0 0; have v0f1 := blk_frozen hVn0 1; have v0f2 := blk_frozen hVn0 2; have x0c0 : wn0.cell? ⟨w2.heap.size + 2, 0, none⟩ = some (.int .i64 5) := (blk_cell hBn0 0).trans rfl; have x0c1 : wn0.cell? ⟨w2.heap.size + 2, 1, none⟩ = some (.int .i64 7) := (blk_cell hBn0 1).trans rfl; have x0c2 : wn0.cell? ⟨w2.heap.size + 2, 2, none⟩ = some (.func (.func 77) #[] #[]) := (blk_cell hBn0 2).trans rfl; have HX0n := Lib.hid ((((HX2.out.alloc HX2.out.size _).alloc (by first | omega | (simp; done) | (simp; omega)) _).alloc (by first | omega | (simp; done) | (simp; omega)) _).trans (hbn0.mono (by first | omega | (simp; done) | (simp; omega)))); have HT0n := Lib.hid hTn0; have HV0n := Lib.hid hVn0; have HP0n := Lib.hid hPn0; have HB0n := Lib.hid hBn0; clear hbn0 hTn0 hVn0 hPn0 hBn0))
  (with_reducible refine (HC0.out _).mono ?_)
  rintro e wc0 ⟨rfl, hbc0⟩
  have hzc0 : wn0.heap.size ≤ wc0.heap.size := (by have := hbc0.size; simpa using this)
  have HT0c := Lib.hid ((hbc0.block _ (by first | omega | (simp; done) | (simp; omega))).trans (blk_far HT0n.out (by first | omega | (simp; done) | (simp; omega)) _))
  have hVc0 : wc0.heap[w2.heap.size]? = some (.cells #[.int .i64 y, .int .i64 a, .int .i64 0] 73 (0, 0)) := ((hbc0.block _ (by first | omega | (simp; done) | (simp; omega))).trans (blk_set HV0n.out _ _)).trans rfl
  have HV0c := Lib.hid hVc0
  have HP0c : Hid (wc0.heap[w2.heap.size + 1]? = some PC0) := (hbc0.block _ (by first | omega | (simp; done) | (simp; omega))).trans (blk_far HP0n.out (by first | omega | (simp; done) | (simp; omega)) _)
  have HX0c := Lib.hid ((below_set HX0n.out (by omega) (j := 1) (v := .int .i64 a)).trans (hbc0.mono (by first | omega | (simp; done) | (simp; omega))))
  clear hbc0
  have hPc0 := HP0c.out
  have p0c0 : wc0.cell? ⟨w2.heap.size + 1, 0, none⟩ = some (.int .i64 5) := (blk_cell hPc0 0).trans rfl
  have p0c1 : wc0.cell? ⟨w2.heap.size + 1, 1, none⟩ = some (.int .i64 7) := (blk_cell hPc0 1).trans rfl
  have p0c2 : wc0.cell? ⟨w2.heap.size + 1, 2, none⟩ = some (.func (.func 77) #[] #[]) := (blk_cell hPc0 2).trans rfl
  have p0c3 : wc0.cell? ⟨w2.heap.size + 1, 3, none⟩ = some (.int .i64 8) := (blk_cell hPc0 3).trans rfl
  have p0c4 : wc0.cell? ⟨w2.heap.size + 1, 4, none⟩ = some (.int .i64 10) := (blk_cell hPc0 4).trans rfl
  have p0c5 : wc0.cell? ⟨w2.heap.size + 1, 5, none⟩ = some (.func (.func 78) #[] #[]) := (blk_cell hPc0 5).trans rfl
  clear hPc0 hVc0
  go_wp2_with (fail)
  rw [rounds_succ]
  go_wp2_with (first | (go_at_call 43; (with_reducible refine (HN1.out _).mono ?_); rintro e wn1 ⟨rfl, hbn1⟩; have hzn1 : wc0.heap.size < wn1.heap.size := (by have := hbn1.size; simp at this; omega); have hTn1 : wn1.heap[w.heap.size]? = some Z3 := (hbn1.block _ (by first | omega | (simp; done) | (simp; omega))).trans (blk_alloc (HT0c.out) _); have hVn1 : wn1.heap[w2.heap.size]? = some (.cells #[.int .i64 y, .int .i64 a, .int .i64 0] 73 (0, 0)) := (hbn1.block _ (by first | omega | (simp; done) | (simp; omega))).trans (blk_alloc HV0c.out _); have hPn1 : wn1.heap[w2.heap.size + 1]? = some PC0 := (hbn1.block _ (by first | omega | (simp; done) | (simp; omega))).trans (blk_alloc HP0c.out _); have hBn1 : wn1.heap[wc0.heap.size]? = some (.cells #[.int .i64 8, .int .i64 10, .func (.func 78) #[] #[]] 80 (0, 0)) := (hbn1.block _ (by first | omega | (simp; done) | (simp; omega))).trans (blk_new wc0 _); have v1c0 : wn1.cell? ⟨w2.heap.size, 0, none⟩ = some (.int .i64 y) := (blk_cell hVn1 0).trans rfl; have v1c1 : wn1.cell? ⟨w2.heap.size, 1, none⟩ = some (.int .i64 a) := (blk_cell hVn1 1).trans rfl; have v1c2 : wn1.cell? ⟨w2.heap.size, 2, none⟩ = some (.int .i64 0) := (blk_cell hVn1 2).trans rfl; have v1f0 := blk_frozen hVn1 0; have v1f1 := blk_frozen hVn1 1; have v1f2 := blk_frozen hVn1 2; have x1c0 : wn1.cell? ⟨wc0.heap.size, 0, none⟩ = some (.int .i64 8) := (blk_cell hBn1 0).trans rfl; have x1c1 : wn1.cell? ⟨wc0.heap.size, 1, none⟩ = some (.int .i64 10) := (blk_cell hBn1 1).trans rfl; have x1c2 : wn1.cell? ⟨wc0.heap.size, 2, none⟩ = some (.func (.func 78) #[] #[]) := (blk_cell hBn1 2).trans rfl; have HX1n := Lib.hid ((HX0c.out.alloc HX0c.out.size _).trans (hbn1.mono (by first | omega | (simp; done) | (simp; omega)))); have HT1n := Lib.hid hTn1; have HV1n := Lib.hid hVn1; have HP1n := Lib.hid hPn1; have HB1n := Lib.hid hBn1; clear hbn1 hTn1 hVn1 hPn1 hBn1))
  (with_reducible refine (HC1.out _ (GlobOk.below HG.out ?gl)).mono ?_)
  case gl => exact below_set HX1n.out (by omega)
  rintro e wc1 ⟨rfl, hbc1⟩
  have hzc1 : wn1.heap.size ≤ wc1.heap.size := (by have := hbc1.size; simpa using this)
  have HT1c := Lib.hid ((hbc1.block _ (by first | omega | (simp; done) | (simp; omega))).trans (blk_far HT1n.out (by first | omega | (simp; done) | (simp; omega)) _))
  have hVc1 : wc1.heap[w2.heap.size]? = some (.cells #[.int .i64 y, .int .i64 a, .int .i64 b] 73 (0, 0)) := ((hbc1.block _ (by first | omega | (simp; done) | (simp; omega))).trans (blk_set HV1n.out _ _)).trans rfl
  have HV1c := Lib.hid hVc1
  have HP1c : Hid (wc1.heap[w2.heap.size + 1]? = some PC0) := (hbc1.block _ (by first | omega | (simp; done) | (simp; omega))).trans (blk_far HP1n.out (by first | omega | (simp; done) | (simp; omega)) _)
  have HX1c := Lib.hid ((below_set HX1n.out (by omega) (j := 2) (v := .int .i64 b)).trans (hbc1.mono (by first | omega | (simp; done) | (simp; omega))))
  clear hbc1
  have w1c0 : wc1.cell? ⟨w2.heap.size, 0, none⟩ = some (.int .i64 y) := (blk_cell hVc1 0).trans rfl
  have w1c1 : wc1.cell? ⟨w2.heap.size, 1, none⟩ = some (.int .i64 a) := (blk_cell hVc1 1).trans rfl
  have w1c2 : wc1.cell? ⟨w2.heap.size, 2, none⟩ = some (.int .i64 b) := (blk_cell hVc1 2).trans rfl
  clear hVc1
  go_wp2_with (fail)
  rw [rounds_succ]
  go_wp2_with (fail)
  (with_reducible refine (HM.out _).mono ?_)
  rintro e wm ⟨rfl, hbm⟩
  have hzm : wc1.heap.size ≤ wm.heap.size := hbm.size
  have hlt : w.heap.size < wm.heap.size := by omega
  have hTm : wm.heap[w.heap.size]? = some Z3 := (hbm.block _ (by omega)).trans HT1c.out
  have ttc0 : wm.cell? ⟨w.heap.size, 0, none⟩ = some (.int .i64 0) := (blk_cell hTm 0).trans rfl
  have ttc1 : wm.cell? ⟨w.heap.size, 1, none⟩ = some (.int .i64 0) := (blk_cell hTm 1).trans rfl
  have ttc2 : wm.cell? ⟨w.heap.size, 2, none⟩ = some (.int .i64 0) := (blk_cell hTm 2).trans rfl
  have ttf0 := blk_frozen hTm 0
  have ttf1 := blk_frozen hTm 1
  have ttf2 := blk_frozen hTm 2
  have HXm := Lib.hid (HX1c.out.trans (hbm.mono (by omega)))
  clear hbm hTm
  go_wp2
  refine bodyPost_ret (v := .tuple #[V3 y a b, .int .i64 0, .int .i64 0]) (by simp [results, Tryd.results21, go_sem, *]) rfl ⟨rfl, ?_⟩
  (repeat (first | exact HXm.out | refine below_set ?_ (Nat.le_refl _) | refine below_alloc ?_ _))
set_option maxRecDepth 100000 in
set_option maxHeartbeats 4000000 in
theorem pd_0_0 (s : ByteArray) (w : World) (hG : GlobOk w) (hs : s.size = 10) (hsh : shp s SH 0 0 = (0, 0)) (hf : fit s ⟨#[100, 100, 100, 100, 45, 100, 100, 45, 100, 100]⟩ = 10) (h0 : ¬ (1 ≤ (nmv s 5 2) ∧ (nmv s 5 2) ≤ 12)) :
    Calls Tryd.prog 21 #[.string s] w fun e w' => e = .returned (.tuple #[V3 0 0 0, .int .i64 30, .int .i64 5]) ∧ Below w.heap.size w w' := by
  have HS := Lib.hid (fun W g => shape_call s W g 0 0 hsh)
  have dg0 := dig_of hf 0 4 (by decide) (by decide)
  have HN := Lib.hid (num_call s 0 4 (by decide) (by omega) (by decide) dg0)
  have ybd := nmv_bd s 0 4 (fun j j1 j2 => dg0 j j1 j2)
  have ybd2 : 0 ≤ (nmv s 0 4) ∧ (nmv s 0 4) ≤ 9999 := by omega
  have dg1 := dig_of hf 5 7 (by decide) (by decide)
  have HN0 := Lib.hid (num_call s 5 7 (by decide) (by omega) (by decide) dg1)
  have bd0 := nmv_bd s 5 2 (fun j j1 j2 => dg1 j j1 j2)
  have dg2 := dig_of hf 8 10 (by decide) (by decide)
  have HN1 := Lib.hid (num_call s 8 10 (by decide) (by omega) (by decide) dg2)
  have bd1 := nmv_bd s 8 2 (fun j j1 j2 => dg2 j j1 j2)
  have hl : 10 ≤ s.size := by omega
  have hu : s.size ≤ 10 := by omega
  have HG := Lib.hid hG
  have HB0 := Lib.hid (decide_eq_false h0)
  have HC0 : Hid (∀ W, Calls Tryd.prog 77 #[V3 (nmv s 0 4) (nmv s 5 2) 0] W fun e w' => e = .returned (.bool false) ∧ Below W.heap.size W w') := by
    intro W; have := (fun W => month_any (nmv s 0 4) (nmv s 5 2) 0 W) W; rw [HB0.out] at this; exact this
  clear h0 ybd ybd2 dg0 dg1 bd0 dg2 bd1 hs hsh hf hG
  generalize (nmv s 0 4) = y at *
  generalize (nmv s 5 2) = a at *
  generalize (nmv s 8 2) = b at *
  go_enter Tryd.func21, Tryd.ntmps21
  go_wp2_with (first | (go_at_call 42; (refine (HS.out ((w.alloc Z3).alloc (.cells (SH.map Value.string).toArray 9)) (w.heap.size + 1) (blk_new1 w _ _)).mono ?_); rintro e w1 ⟨rfl, hb1⟩; have HX1 := Lib.hid hb1; have hz1 : w.heap.size + 2 ≤ w1.heap.size := (by have := hb1.size; simp at this; omega); have hT1 : w1.heap[w.heap.size]? = some Z3 := (hb1.block _ (by first | omega | (simp; done) | (simp; omega))).trans (blk_alloc (blk_new w _) _); have HT1 := Lib.hid hT1; clear hb1 hT1) | (go_at_call 43; (with_reducible refine (HN.out _).mono ?_); rintro e w2 ⟨rfl, hb2⟩; have hz2 : w1.heap.size ≤ w2.heap.size := hb2.size; have HT2 := Lib.hid ((hb2.block _ (by omega)).trans HT1.out); have HX2 := Lib.hid (((((Below.refl _ w).alloc (Nat.le_refl _) _).alloc (by first | omega | (simp; done) | (simp; omega)) _).trans (HX1.out.mono (by first | omega | (simp; done) | (simp; omega)))).trans (hb2.mono (by omega))); clear hb2) | (go_at_call 44; (refine (parts_0 _).mono ?_); rintro e w3 ⟨rfl, rfl⟩))
  refine wp_loop_rounds 3 ?_
  rw [rounds_succ]
  go_wp2_with (first | (go_at_call 43; (with_reducible refine (HN0.out _).mono ?_); rintro e wn0 ⟨rfl, hbn0⟩; have hzn0 : w2.heap.size + 2 < wn0.heap.size := (by have := hbn0.size; simp at this; omega); have hTn0 : wn0.heap[w.heap.size]? = some Z3 := (hbn0.block _ (by first | omega | (simp; done) | (simp; omega))).trans (blk_alloc (blk_alloc (blk_alloc (HT2.out) _) _) _); have hVn0 : wn0.heap[w2.heap.size]? = some (.cells #[.int .i64 y, .int .i64 0, .int .i64 0] 73 (0, 0)) := (hbn0.block _ (by first | omega | (simp; done) | (simp; omega))).trans (blk_alloc (blk_alloc (blk_new w2 _) _) _); have hPn0 : wn0.heap[w2.heap.size + 1]? = some PC0 := (hbn0.block _ (by first | omega | (simp; done) | (simp; omega))).trans (blk_alloc (blk_new1 w2 _ _) _); have hBn0 : wn0.heap[w2.heap.size + 2]? = some (.cells #[.int .i64 5, .int .i64 7, .func (.func 77) #[] #[]] 80 (0, 0)) := (hbn0.block _ (by first | omega | (simp; done) | (simp; omega))).trans (blk_new2 w2 _ _ _); have v0c0 : wn0.cell? ⟨w2.heap.size, 0, none⟩ = some (.int .i64 y) := (blk_cell hVn0 0).trans rfl; have v0c1 : wn0.cell? ⟨w2.heap.size, 1, none⟩ = some (.int .i64 0) := (blk_cell hVn0 1).trans rfl; have v0c2 : wn0.cell? ⟨w2.heap.size, 2, none⟩ = some (.int .i64 0) := (blk_cell hVn0 2).trans rfl; have v0f0 := blk_frozen hVn0 0; have v0f1 := blk_frozen hVn0 1; have v0f2 := blk_frozen hVn0 2; have x0c0 : wn0.cell? ⟨w2.heap.size + 2, 0, none⟩ = some (.int .i64 5) := (blk_cell hBn0 0).trans rfl; have x0c1 : wn0.cell? ⟨w2.heap.size + 2, 1, none⟩ = some (.int .i64 7) := (blk_cell hBn0 1).trans rfl; have x0c2 : wn0.cell? ⟨w2.heap.size + 2, 2, none⟩ = some (.func (.func 77) #[] #[]) := (blk_cell hBn0 2).trans rfl; have HX0n := Lib.hid ((((HX2.out.alloc HX2.out.size _).alloc (by first | omega | (simp; done) | (simp; omega)) _).alloc (by first | omega | (simp; done) | (simp; omega)) _).trans (hbn0.mono (by first | omega | (simp; done) | (simp; omega)))); have HT0n := Lib.hid hTn0; have HV0n := Lib.hid hVn0; have HP0n := Lib.hid hPn0; have HB0n := Lib.hid hBn0; clear hbn0 hTn0 hVn0 hPn0 hBn0))
  (with_reducible refine (HC0.out _).mono ?_)
  rintro e wc0 ⟨rfl, hbc0⟩
  have hzc0 : wn0.heap.size ≤ wc0.heap.size := (by have := hbc0.size; simpa using this)
  have hTc : wc0.heap[w.heap.size]? = some Z3 := (hbc0.block _ (by first | omega | (simp; done) | (simp; omega))).trans (blk_far HT0n.out (by first | omega | (simp; done) | (simp; omega)) _)
  have hBc : wc0.heap[w2.heap.size + 2]? = some (.cells #[.int .i64 5, .int .i64 7, .func (.func 77) #[] #[]] 80 (0, 0)) := (hbc0.block _ (by first | omega | (simp; done) | (simp; omega))).trans (blk_far HB0n.out (by first | omega | (simp; done) | (simp; omega)) _)
  have ttc0 : wc0.cell? ⟨w.heap.size, 0, none⟩ = some (.int .i64 0) := (blk_cell hTc 0).trans rfl
  have ttc1 : wc0.cell? ⟨w.heap.size, 1, none⟩ = some (.int .i64 0) := (blk_cell hTc 1).trans rfl
  have ttc2 : wc0.cell? ⟨w.heap.size, 2, none⟩ = some (.int .i64 0) := (blk_cell hTc 2).trans rfl
  have ttf0 := blk_frozen hTc 0
  have ttf1 := blk_frozen hTc 1
  have ttf2 := blk_frozen hTc 2
  have bbc0 : wc0.cell? ⟨w2.heap.size + 2, 0, none⟩ = some (.int .i64 5) := (blk_cell hBc 0).trans rfl
  have bbc1 : wc0.cell? ⟨w2.heap.size + 2, 1, none⟩ = some (.int .i64 7) := (blk_cell hBc 1).trans rfl
  have bbc2 : wc0.cell? ⟨w2.heap.size + 2, 2, none⟩ = some (.func (.func 77) #[] #[]) := (blk_cell hBc 2).trans rfl
  have HXc := Lib.hid ((below_set HX0n.out (by omega) (j := 1) (v := .int .i64 a)).trans (hbc0.mono (by first | omega | (simp; done) | (simp; omega))))
  clear hbc0 hTc hBc
  go_wp2_with (fail)
  go_region
  all_goals
    go_wp2
    refine bodyPost_ret (v := .tuple #[V3 0 0 0, .int .i64 30, .int .i64 5]) (by simp [results, Tryd.results21, go_sem, *]) rfl ⟨rfl, ?_⟩
    (repeat (first | exact HXc.out | refine below_set ?_ (Nat.le_refl _) | refine Below.drew ?_))
set_option maxRecDepth 100000 in
set_option maxHeartbeats 4000000 in
theorem pd_0_1 (s : ByteArray) (w : World) (hG : GlobOk w) (hs : s.size = 10) (hsh : shp s SH 0 0 = (0, 0)) (hf : fit s ⟨#[100, 100, 100, 100, 45, 100, 100, 45, 100, 100]⟩ = 10) (h0 : (1 ≤ (nmv s 5 2) ∧ (nmv s 5 2) ≤ 12)) (h1 : ¬ (1 ≤ (nmv s 8 2) ∧ (nmv s 8 2) ≤ dim (nmv s 0 4) (nmv s 5 2))) :
    Calls Tryd.prog 21 #[.string s] w fun e w' => e = .returned (.tuple #[V3 0 0 0, .int .i64 30, .int .i64 8]) ∧ Below w.heap.size w w' := by
  have HS := Lib.hid (fun W g => shape_call s W g 0 0 hsh)
  have dg0 := dig_of hf 0 4 (by decide) (by decide)
  have HN := Lib.hid (num_call s 0 4 (by decide) (by omega) (by decide) dg0)
  have ybd := nmv_bd s 0 4 (fun j j1 j2 => dg0 j j1 j2)
  have ybd2 : 0 ≤ (nmv s 0 4) ∧ (nmv s 0 4) ≤ 9999 := by omega
  have dg1 := dig_of hf 5 7 (by decide) (by decide)
  have HN0 := Lib.hid (num_call s 5 7 (by decide) (by omega) (by decide) dg1)
  have bd0 := nmv_bd s 5 2 (fun j j1 j2 => dg1 j j1 j2)
  have dg2 := dig_of hf 8 10 (by decide) (by decide)
  have HN1 := Lib.hid (num_call s 8 10 (by decide) (by omega) (by decide) dg2)
  have bd1 := nmv_bd s 8 2 (fun j j1 j2 => dg2 j j1 j2)
  have hl : 10 ≤ s.size := by omega
  have hu : s.size ≤ 10 := by omega
  have HG := Lib.hid hG
  have HB0 := Lib.hid (decide_eq_true h0)
  have HC0 : Hid (∀ W, Calls Tryd.prog 77 #[V3 (nmv s 0 4) (nmv s 5 2) 0] W fun e w' => e = .returned (.bool true) ∧ Below W.heap.size W w') := by
    intro W; have := (fun W => month_any (nmv s 0 4) (nmv s 5 2) 0 W) W; rw [HB0.out] at this; exact this
  have HB1 := Lib.hid (decide_eq_false h1)
  have HC1 : Hid (∀ W, GlobOk W → Calls Tryd.prog 78 #[V3 (nmv s 0 4) (nmv s 5 2) (nmv s 8 2)] W fun e w' => e = .returned (.bool false) ∧ Below W.heap.size W w') := by
    intro W hW; have := (fun W hW => day_any (nmv s 0 4) (nmv s 5 2) (nmv s 8 2) W hW h0) W hW; rw [HB1.out] at this; exact this
  clear h0 h1 ybd ybd2 dg0 dg1 bd0 dg2 bd1 hs hsh hf hG
  generalize (nmv s 0 4) = y at *
  generalize (nmv s 5 2) = a at *
  generalize (nmv s 8 2) = b at *
  go_enter Tryd.func21, Tryd.ntmps21
  go_wp2_with (first | (go_at_call 42; (refine (HS.out ((w.alloc Z3).alloc (.cells (SH.map Value.string).toArray 9)) (w.heap.size + 1) (blk_new1 w _ _)).mono ?_); rintro e w1 ⟨rfl, hb1⟩; have HX1 := Lib.hid hb1; have hz1 : w.heap.size + 2 ≤ w1.heap.size := (by have := hb1.size; simp at this; omega); have hT1 : w1.heap[w.heap.size]? = some Z3 := (hb1.block _ (by first | omega | (simp; done) | (simp; omega))).trans (blk_alloc (blk_new w _) _); have HT1 := Lib.hid hT1; clear hb1 hT1) | (go_at_call 43; (with_reducible refine (HN.out _).mono ?_); rintro e w2 ⟨rfl, hb2⟩; have hz2 : w1.heap.size ≤ w2.heap.size := hb2.size; have HT2 := Lib.hid ((hb2.block _ (by omega)).trans HT1.out); have HX2 := Lib.hid (((((Below.refl _ w).alloc (Nat.le_refl _) _).alloc (by first | omega | (simp; done) | (simp; omega)) _).trans (HX1.out.mono (by first | omega | (simp; done) | (simp; omega)))).trans (hb2.mono (by omega))); clear hb2) | (go_at_call 44; (refine (parts_0 _).mono ?_); rintro e w3 ⟨rfl, rfl⟩))
  refine wp_loop_rounds 3 ?_
  rw [rounds_succ]
  go_wp2_with (first | (go_at_call 43; (with_reducible refine (HN0.out _).mono ?_); rintro e wn0 ⟨rfl, hbn0⟩; have hzn0 : w2.heap.size + 2 < wn0.heap.size := (by have := hbn0.size; simp at this; omega); have hTn0 : wn0.heap[w.heap.size]? = some Z3 := (hbn0.block _ (by first | omega | (simp; done) | (simp; omega))).trans (blk_alloc (blk_alloc (blk_alloc (HT2.out) _) _) _); have hVn0 : wn0.heap[w2.heap.size]? = some (.cells #[.int .i64 y, .int .i64 0, .int .i64 0] 73 (0, 0)) := (hbn0.block _ (by first | omega | (simp; done) | (simp; omega))).trans (blk_alloc (blk_alloc (blk_new w2 _) _) _); have hPn0 : wn0.heap[w2.heap.size + 1]? = some PC0 := (hbn0.block _ (by first | omega | (simp; done) | (simp; omega))).trans (blk_alloc (blk_new1 w2 _ _) _); have hBn0 : wn0.heap[w2.heap.size + 2]? = some (.cells #[.int .i64 5, .int .i64 7, .func (.func 77) #[] #[]] 80 (0, 0)) := (hbn0.block _ (by first | omega | (simp; done) | (simp; omega))).trans (blk_new2 w2 _ _ _); have v0c0 : wn0.cell? ⟨w2.heap.size, 0, none⟩ = some (.int .i64 y) := (blk_cell hVn0 0).trans rfl; have v0c1 : wn0.cell? ⟨w2.heap.size, 1, none⟩ = some (.int .i64 0) := (blk_cell hVn0 1).trans rfl; have v0c2 : wn0.cell? ⟨w2.heap.size, 2, none⟩ = some (.int .i64 0) := (blk_cell hVn0 2).trans rfl; have v0f0 := blk_frozen hVn0 0; have v0f1 := blk_frozen hVn0 1; have v0f2 := blk_frozen hVn0 2; have x0c0 : wn0.cell? ⟨w2.heap.size + 2, 0, none⟩ = some (.int .i64 5) := (blk_cell hBn0 0).trans rfl; have x0c1 : wn0.cell? ⟨w2.heap.size + 2, 1, none⟩ = some (.int .i64 7) := (blk_cell hBn0 1).trans rfl; have x0c2 : wn0.cell? ⟨w2.heap.size + 2, 2, none⟩ = some (.func (.func 77) #[] #[]) := (blk_cell hBn0 2).trans rfl; have HX0n := Lib.hid ((((HX2.out.alloc HX2.out.size _).alloc (by first | omega | (simp; done) | (simp; omega)) _).alloc (by first | omega | (simp; done) | (simp; omega)) _).trans (hbn0.mono (by first | omega | (simp; done) | (simp; omega)))); have HT0n := Lib.hid hTn0; have HV0n := Lib.hid hVn0; have HP0n := Lib.hid hPn0; have HB0n := Lib.hid hBn0; clear hbn0 hTn0 hVn0 hPn0 hBn0))
  (with_reducible refine (HC0.out _).mono ?_)
  rintro e wc0 ⟨rfl, hbc0⟩
  have hzc0 : wn0.heap.size ≤ wc0.heap.size := (by have := hbc0.size; simpa using this)
  have HT0c := Lib.hid ((hbc0.block _ (by first | omega | (simp; done) | (simp; omega))).trans (blk_far HT0n.out (by first | omega | (simp; done) | (simp; omega)) _))
  have hVc0 : wc0.heap[w2.heap.size]? = some (.cells #[.int .i64 y, .int .i64 a, .int .i64 0] 73 (0, 0)) := ((hbc0.block _ (by first | omega | (simp; done) | (simp; omega))).trans (blk_set HV0n.out _ _)).trans rfl
  have HV0c := Lib.hid hVc0
  have HP0c : Hid (wc0.heap[w2.heap.size + 1]? = some PC0) := (hbc0.block _ (by first | omega | (simp; done) | (simp; omega))).trans (blk_far HP0n.out (by first | omega | (simp; done) | (simp; omega)) _)
  have HX0c := Lib.hid ((below_set HX0n.out (by omega) (j := 1) (v := .int .i64 a)).trans (hbc0.mono (by first | omega | (simp; done) | (simp; omega))))
  clear hbc0
  have hPc0 := HP0c.out
  have p0c0 : wc0.cell? ⟨w2.heap.size + 1, 0, none⟩ = some (.int .i64 5) := (blk_cell hPc0 0).trans rfl
  have p0c1 : wc0.cell? ⟨w2.heap.size + 1, 1, none⟩ = some (.int .i64 7) := (blk_cell hPc0 1).trans rfl
  have p0c2 : wc0.cell? ⟨w2.heap.size + 1, 2, none⟩ = some (.func (.func 77) #[] #[]) := (blk_cell hPc0 2).trans rfl
  have p0c3 : wc0.cell? ⟨w2.heap.size + 1, 3, none⟩ = some (.int .i64 8) := (blk_cell hPc0 3).trans rfl
  have p0c4 : wc0.cell? ⟨w2.heap.size + 1, 4, none⟩ = some (.int .i64 10) := (blk_cell hPc0 4).trans rfl
  have p0c5 : wc0.cell? ⟨w2.heap.size + 1, 5, none⟩ = some (.func (.func 78) #[] #[]) := (blk_cell hPc0 5).trans rfl
  clear hPc0 hVc0
  go_wp2_with (fail)
  rw [rounds_succ]
  go_wp2_with (first | (go_at_call 43; (with_reducible refine (HN1.out _).mono ?_); rintro e wn1 ⟨rfl, hbn1⟩; have hzn1 : wc0.heap.size < wn1.heap.size := (by have := hbn1.size; simp at this; omega); have hTn1 : wn1.heap[w.heap.size]? = some Z3 := (hbn1.block _ (by first | omega | (simp; done) | (simp; omega))).trans (blk_alloc (HT0c.out) _); have hVn1 : wn1.heap[w2.heap.size]? = some (.cells #[.int .i64 y, .int .i64 a, .int .i64 0] 73 (0, 0)) := (hbn1.block _ (by first | omega | (simp; done) | (simp; omega))).trans (blk_alloc HV0c.out _); have hPn1 : wn1.heap[w2.heap.size + 1]? = some PC0 := (hbn1.block _ (by first | omega | (simp; done) | (simp; omega))).trans (blk_alloc HP0c.out _); have hBn1 : wn1.heap[wc0.heap.size]? = some (.cells #[.int .i64 8, .int .i64 10, .func (.func 78) #[] #[]] 80 (0, 0)) := (hbn1.block _ (by first | omega | (simp; done) | (simp; omega))).trans (blk_new wc0 _); have v1c0 : wn1.cell? ⟨w2.heap.size, 0, none⟩ = some (.int .i64 y) := (blk_cell hVn1 0).trans rfl; have v1c1 : wn1.cell? ⟨w2.heap.size, 1, none⟩ = some (.int .i64 a) := (blk_cell hVn1 1).trans rfl; have v1c2 : wn1.cell? ⟨w2.heap.size, 2, none⟩ = some (.int .i64 0) := (blk_cell hVn1 2).trans rfl; have v1f0 := blk_frozen hVn1 0; have v1f1 := blk_frozen hVn1 1; have v1f2 := blk_frozen hVn1 2; have x1c0 : wn1.cell? ⟨wc0.heap.size, 0, none⟩ = some (.int .i64 8) := (blk_cell hBn1 0).trans rfl; have x1c1 : wn1.cell? ⟨wc0.heap.size, 1, none⟩ = some (.int .i64 10) := (blk_cell hBn1 1).trans rfl; have x1c2 : wn1.cell? ⟨wc0.heap.size, 2, none⟩ = some (.func (.func 78) #[] #[]) := (blk_cell hBn1 2).trans rfl; have HX1n := Lib.hid ((HX0c.out.alloc HX0c.out.size _).trans (hbn1.mono (by first | omega | (simp; done) | (simp; omega)))); have HT1n := Lib.hid hTn1; have HV1n := Lib.hid hVn1; have HP1n := Lib.hid hPn1; have HB1n := Lib.hid hBn1; clear hbn1 hTn1 hVn1 hPn1 hBn1))
  (with_reducible refine (HC1.out _ (GlobOk.below HG.out ?gl)).mono ?_)
  case gl => exact below_set HX1n.out (by omega)
  rintro e wc1 ⟨rfl, hbc1⟩
  have hzc1 : wn1.heap.size ≤ wc1.heap.size := (by have := hbc1.size; simpa using this)
  have hTc : wc1.heap[w.heap.size]? = some Z3 := (hbc1.block _ (by first | omega | (simp; done) | (simp; omega))).trans (blk_far HT1n.out (by first | omega | (simp; done) | (simp; omega)) _)
  have hBc : wc1.heap[wc0.heap.size]? = some (.cells #[.int .i64 8, .int .i64 10, .func (.func 78) #[] #[]] 80 (0, 0)) := (hbc1.block _ (by first | omega | (simp; done) | (simp; omega))).trans (blk_far HB1n.out (by first | omega | (simp; done) | (simp; omega)) _)
  have ttc0 : wc1.cell? ⟨w.heap.size, 0, none⟩ = some (.int .i64 0) := (blk_cell hTc 0).trans rfl
  have ttc1 : wc1.cell? ⟨w.heap.size, 1, none⟩ = some (.int .i64 0) := (blk_cell hTc 1).trans rfl
  have ttc2 : wc1.cell? ⟨w.heap.size, 2, none⟩ = some (.int .i64 0) := (blk_cell hTc 2).trans rfl
  have ttf0 := blk_frozen hTc 0
  have ttf1 := blk_frozen hTc 1
  have ttf2 := blk_frozen hTc 2
  have bbc0 : wc1.cell? ⟨wc0.heap.size, 0, none⟩ = some (.int .i64 8) := (blk_cell hBc 0).trans rfl
  have bbc1 : wc1.cell? ⟨wc0.heap.size, 1, none⟩ = some (.int .i64 10) := (blk_cell hBc 1).trans rfl
  have bbc2 : wc1.cell? ⟨wc0.heap.size, 2, none⟩ = some (.func (.func 78) #[] #[]) := (blk_cell hBc 2).trans rfl
  have HXc := Lib.hid ((below_set HX1n.out (by omega) (j := 2) (v := .int .i64 b)).trans (hbc1.mono (by first | omega | (simp; done) | (simp; omega))))
  clear hbc1 hTc hBc
  go_wp2_with (fail)
  go_region
  all_goals
    go_wp2
    refine bodyPost_ret (v := .tuple #[V3 0 0 0, .int .i64 30, .int .i64 8]) (by simp [results, Tryd.results21, go_sem, *]) rfl ⟨rfl, ?_⟩
    (repeat (first | exact HXc.out | refine below_set ?_ (Nat.le_refl _) | refine Below.drew ?_))
set_option maxRecDepth 100000 in
set_option maxHeartbeats 4000000 in
theorem pd_1_ok (s : ByteArray) (w : World) (hG : GlobOk w) (hs : s.size = 8) (hsh : shp s SH 0 0 = (1, 0)) (hf : fit s ⟨#[100, 100, 100, 100, 100, 100, 100, 100]⟩ = 8) (h0 : (1 ≤ (nmv s 4 2) ∧ (nmv s 4 2) ≤ 12)) (h1 : (1 ≤ (nmv s 6 2) ∧ (nmv s 6 2) ≤ dim (nmv s 0 4) (nmv s 4 2))) :
    Calls Tryd.prog 21 #[.string s] w fun e w' => e = .returned (.tuple #[V3 (nmv s 0 4) (nmv s 4 2) (nmv s 6 2), .int .i64 0, .int .i64 0]) ∧ Below w.heap.size w w' := by
  have HS := Lib.hid (fun W g => shape_call s W g 1 0 hsh)
  have dg0 := dig_of hf 0 4 (by decide) (by decide)
  have HN := Lib.hid (num_call s 0 4 (by decide) (by omega) (by decide) dg0)
  have ybd := nmv_bd s 0 4 (fun j j1 j2 => dg0 j j1 j2)
  have ybd2 : 0 ≤ (nmv s 0 4) ∧ (nmv s 0 4) ≤ 9999 := by omega
  have dg1 := dig_of hf 4 6 (by decide) (by decide)
  have HN0 := Lib.hid (num_call s 4 6 (by decide) (by omega) (by decide) dg1)
  have bd0 := nmv_bd s 4 2 (fun j j1 j2 => dg1 j j1 j2)
  have dg2 := dig_of hf 6 8 (by decide) (by decide)
  have HN1 := Lib.hid (num_call s 6 8 (by decide) (by omega) (by decide) dg2)
  have bd1 := nmv_bd s 6 2 (fun j j1 j2 => dg2 j j1 j2)
  have hl : 8 ≤ s.size := by omega
  have hu : s.size ≤ 8 := by omega
  have HG := Lib.hid hG
  have HB0 := Lib.hid (decide_eq_true h0)
  have HC0 : Hid (∀ W, Calls Tryd.prog 77 #[V3 (nmv s 0 4) (nmv s 4 2) 0] W fun e w' => e = .returned (.bool true) ∧ Below W.heap.size W w') := by
    intro W; have := (fun W => month_any (nmv s 0 4) (nmv s 4 2) 0 W) W; rw [HB0.out] at this; exact this
  have HB1 := Lib.hid (decide_eq_true h1)
  have HC1 : Hid (∀ W, GlobOk W → Calls Tryd.prog 78 #[V3 (nmv s 0 4) (nmv s 4 2) (nmv s 6 2)] W fun e w' => e = .returned (.bool true) ∧ Below W.heap.size W w') := by
    intro W hW; have := (fun W hW => day_any (nmv s 0 4) (nmv s 4 2) (nmv s 6 2) W hW h0) W hW; rw [HB1.out] at this; exact this
  have HM : Hid (∀ W, Calls Tryd.prog 83 #[V3 (nmv s 0 4) (nmv s 4 2) (nmv s 6 2)] W fun e w' => e = .returned (.tuple #[V3 (nmv s 0 4) (nmv s 4 2) (nmv s 6 2), .int .i64 0]) ∧ Below W.heap.size W w') := fun W => byMonth_any _ _ _ W
  clear h0 h1 ybd ybd2 dg0 dg1 bd0 dg2 bd1 hs hsh hf hG
  generalize (nmv s 0 4) = y at *
  generalize (nmv s 4 2) = a at *
  generalize (nmv s 6 2) = b at *
  go_enter Tryd.func21, Tryd.ntmps21
  go_wp2_with (first | (go_at_call 42; (refine (HS.out ((w.alloc Z3).alloc (.cells (SH.map Value.string).toArray 9)) (w.heap.size + 1) (blk_new1 w _ _)).mono ?_); rintro e w1 ⟨rfl, hb1⟩; have HX1 := Lib.hid hb1; have hz1 : w.heap.size + 2 ≤ w1.heap.size := (by have := hb1.size; simp at this; omega); have hT1 : w1.heap[w.heap.size]? = some Z3 := (hb1.block _ (by first | omega | (simp; done) | (simp; omega))).trans (blk_alloc (blk_new w _) _); have HT1 := Lib.hid hT1; clear hb1 hT1) | (go_at_call 43; (with_reducible refine (HN.out _).mono ?_); rintro e w2 ⟨rfl, hb2⟩; have hz2 : w1.heap.size ≤ w2.heap.size := hb2.size; have HT2 := Lib.hid ((hb2.block _ (by omega)).trans HT1.out); have HX2 := Lib.hid (((((Below.refl _ w).alloc (Nat.le_refl _) _).alloc (by first | omega | (simp; done) | (simp; omega)) _).trans (HX1.out.mono (by first | omega | (simp; done) | (simp; omega)))).trans (hb2.mono (by omega))); clear hb2) | (go_at_call 44; (refine (parts_1 _).mono ?_); rintro e w3 ⟨rfl, rfl⟩))
  refine wp_loop_rounds 3 ?_
  rw [rounds_succ]
  go_wp2_with (first | (go_at_call 43; (with_reducible refine (HN0.out _).mono ?_); rintro e wn0 ⟨rfl, hbn0⟩; have hzn0 : w2.heap.size + 2 < wn0.heap.size := (by have := hbn0.size; simp at this; omega); have hTn0 : wn0.heap[w.heap.size]? = some Z3 := (hbn0.block _ (by first | omega | (simp; done) | (simp; omega))).trans (blk_alloc (blk_alloc (blk_alloc (HT2.out) _) _) _); have hVn0 : wn0.heap[w2.heap.size]? = some (.cells #[.int .i64 y, .int .i64 0, .int .i64 0] 73 (0, 0)) := (hbn0.block _ (by first | omega | (simp; done) | (simp; omega))).trans (blk_alloc (blk_alloc (blk_new w2 _) _) _); have hPn0 : wn0.heap[w2.heap.size + 1]? = some PC1 := (hbn0.block _ (by first | omega | (simp; done) | (simp; omega))).trans (blk_alloc (blk_new1 w2 _ _) _); have hBn0 : wn0.heap[w2.heap.size + 2]? = some (.cells #[.int .i64 4, .int .i64 6, .func (.func 77) #[] #[]] 80 (0, 0)) := (hbn0.block _ (by first | omega | (simp; done) | (simp; omega))).trans (blk_new2 w2 _ _ _); have v0c0 : wn0.cell? ⟨w2.heap.size, 0, none⟩ = some (.int .i64 y) := (blk_cell hVn0 0).trans rfl; have v0c1 : wn0.cell? ⟨w2.heap.size, 1, none⟩ = some (.int .i64 0) := (blk_cell hVn0 1).trans rfl; have v0c2 : wn0.cell? ⟨w2.heap.size, 2, none⟩ = some (.int .i64 0) := (blk_cell hVn0 2).trans rfl; have v0f0 := blk_frozen hVn0 0; have v0f1 := blk_frozen hVn0 1; have v0f2 := blk_frozen hVn0 2; have x0c0 : wn0.cell? ⟨w2.heap.size + 2, 0, none⟩ = some (.int .i64 4) := (blk_cell hBn0 0).trans rfl; have x0c1 : wn0.cell? ⟨w2.heap.size + 2, 1, none⟩ = some (.int .i64 6) := (blk_cell hBn0 1).trans rfl; have x0c2 : wn0.cell? ⟨w2.heap.size + 2, 2, none⟩ = some (.func (.func 77) #[] #[]) := (blk_cell hBn0 2).trans rfl; have HX0n := Lib.hid ((((HX2.out.alloc HX2.out.size _).alloc (by first | omega | (simp; done) | (simp; omega)) _).alloc (by first | omega | (simp; done) | (simp; omega)) _).trans (hbn0.mono (by first | omega | (simp; done) | (simp; omega)))); have HT0n := Lib.hid hTn0; have HV0n := Lib.hid hVn0; have HP0n := Lib.hid hPn0; have HB0n := Lib.hid hBn0; clear hbn0 hTn0 hVn0 hPn0 hBn0))
  (with_reducible refine (HC0.out _).mono ?_)
  rintro e wc0 ⟨rfl, hbc0⟩
  have hzc0 : wn0.heap.size ≤ wc0.heap.size := (by have := hbc0.size; simpa using this)
  have HT0c := Lib.hid ((hbc0.block _ (by first | omega | (simp; done) | (simp; omega))).trans (blk_far HT0n.out (by first | omega | (simp; done) | (simp; omega)) _))
  have hVc0 : wc0.heap[w2.heap.size]? = some (.cells #[.int .i64 y, .int .i64 a, .int .i64 0] 73 (0, 0)) := ((hbc0.block _ (by first | omega | (simp; done) | (simp; omega))).trans (blk_set HV0n.out _ _)).trans rfl
  have HV0c := Lib.hid hVc0
  have HP0c : Hid (wc0.heap[w2.heap.size + 1]? = some PC1) := (hbc0.block _ (by first | omega | (simp; done) | (simp; omega))).trans (blk_far HP0n.out (by first | omega | (simp; done) | (simp; omega)) _)
  have HX0c := Lib.hid ((below_set HX0n.out (by omega) (j := 1) (v := .int .i64 a)).trans (hbc0.mono (by first | omega | (simp; done) | (simp; omega))))
  clear hbc0
  have hPc0 := HP0c.out
  have p0c0 : wc0.cell? ⟨w2.heap.size + 1, 0, none⟩ = some (.int .i64 4) := (blk_cell hPc0 0).trans rfl
  have p0c1 : wc0.cell? ⟨w2.heap.size + 1, 1, none⟩ = some (.int .i64 6) := (blk_cell hPc0 1).trans rfl
  have p0c2 : wc0.cell? ⟨w2.heap.size + 1, 2, none⟩ = some (.func (.func 77) #[] #[]) := (blk_cell hPc0 2).trans rfl
  have p0c3 : wc0.cell? ⟨w2.heap.size + 1, 3, none⟩ = some (.int .i64 6) := (blk_cell hPc0 3).trans rfl
  have p0c4 : wc0.cell? ⟨w2.heap.size + 1, 4, none⟩ = some (.int .i64 8) := (blk_cell hPc0 4).trans rfl
  have p0c5 : wc0.cell? ⟨w2.heap.size + 1, 5, none⟩ = some (.func (.func 78) #[] #[]) := (blk_cell hPc0 5).trans rfl
  clear hPc0 hVc0
  go_wp2_with (fail)
  rw [rounds_succ]
  go_wp2_with (first | (go_at_call 43; (with_reducible refine (HN1.out _).mono ?_); rintro e wn1 ⟨rfl, hbn1⟩; have hzn1 : wc0.heap.size < wn1.heap.size := (by have := hbn1.size; simp at this; omega); have hTn1 : wn1.heap[w.heap.size]? = some Z3 := (hbn1.block _ (by first | omega | (simp; done) | (simp; omega))).trans (blk_alloc (HT0c.out) _); have hVn1 : wn1.heap[w2.heap.size]? = some (.cells #[.int .i64 y, .int .i64 a, .int .i64 0] 73 (0, 0)) := (hbn1.block _ (by first | omega | (simp; done) | (simp; omega))).trans (blk_alloc HV0c.out _); have hPn1 : wn1.heap[w2.heap.size + 1]? = some PC1 := (hbn1.block _ (by first | omega | (simp; done) | (simp; omega))).trans (blk_alloc HP0c.out _); have hBn1 : wn1.heap[wc0.heap.size]? = some (.cells #[.int .i64 6, .int .i64 8, .func (.func 78) #[] #[]] 80 (0, 0)) := (hbn1.block _ (by first | omega | (simp; done) | (simp; omega))).trans (blk_new wc0 _); have v1c0 : wn1.cell? ⟨w2.heap.size, 0, none⟩ = some (.int .i64 y) := (blk_cell hVn1 0).trans rfl; have v1c1 : wn1.cell? ⟨w2.heap.size, 1, none⟩ = some (.int .i64 a) := (blk_cell hVn1 1).trans rfl; have v1c2 : wn1.cell? ⟨w2.heap.size, 2, none⟩ = some (.int .i64 0) := (blk_cell hVn1 2).trans rfl; have v1f0 := blk_frozen hVn1 0; have v1f1 := blk_frozen hVn1 1; have v1f2 := blk_frozen hVn1 2; have x1c0 : wn1.cell? ⟨wc0.heap.size, 0, none⟩ = some (.int .i64 6) := (blk_cell hBn1 0).trans rfl; have x1c1 : wn1.cell? ⟨wc0.heap.size, 1, none⟩ = some (.int .i64 8) := (blk_cell hBn1 1).trans rfl; have x1c2 : wn1.cell? ⟨wc0.heap.size, 2, none⟩ = some (.func (.func 78) #[] #[]) := (blk_cell hBn1 2).trans rfl; have HX1n := Lib.hid ((HX0c.out.alloc HX0c.out.size _).trans (hbn1.mono (by first | omega | (simp; done) | (simp; omega)))); have HT1n := Lib.hid hTn1; have HV1n := Lib.hid hVn1; have HP1n := Lib.hid hPn1; have HB1n := Lib.hid hBn1; clear hbn1 hTn1 hVn1 hPn1 hBn1))
  (with_reducible refine (HC1.out _ (GlobOk.below HG.out ?gl)).mono ?_)
  case gl => exact below_set HX1n.out (by omega)
  rintro e wc1 ⟨rfl, hbc1⟩
  have hzc1 : wn1.heap.size ≤ wc1.heap.size := (by have := hbc1.size; simpa using this)
  have HT1c := Lib.hid ((hbc1.block _ (by first | omega | (simp; done) | (simp; omega))).trans (blk_far HT1n.out (by first | omega | (simp; done) | (simp; omega)) _))
  have hVc1 : wc1.heap[w2.heap.size]? = some (.cells #[.int .i64 y, .int .i64 a, .int .i64 b] 73 (0, 0)) := ((hbc1.block _ (by first | omega | (simp; done) | (simp; omega))).trans (blk_set HV1n.out _ _)).trans rfl
  have HV1c := Lib.hid hVc1
  have HP1c : Hid (wc1.heap[w2.heap.size + 1]? = some PC1) := (hbc1.block _ (by first | omega | (simp; done) | (simp; omega))).trans (blk_far HP1n.out (by first | omega | (simp; done) | (simp; omega)) _)
  have HX1c := Lib.hid ((below_set HX1n.out (by omega) (j := 2) (v := .int .i64 b)).trans (hbc1.mono (by first | omega | (simp; done) | (simp; omega))))
  clear hbc1
  have w1c0 : wc1.cell? ⟨w2.heap.size, 0, none⟩ = some (.int .i64 y) := (blk_cell hVc1 0).trans rfl
  have w1c1 : wc1.cell? ⟨w2.heap.size, 1, none⟩ = some (.int .i64 a) := (blk_cell hVc1 1).trans rfl
  have w1c2 : wc1.cell? ⟨w2.heap.size, 2, none⟩ = some (.int .i64 b) := (blk_cell hVc1 2).trans rfl
  clear hVc1
  go_wp2_with (fail)
  rw [rounds_succ]
  go_wp2_with (fail)
  (with_reducible refine (HM.out _).mono ?_)
  rintro e wm ⟨rfl, hbm⟩
  have hzm : wc1.heap.size ≤ wm.heap.size := hbm.size
  have hlt : w.heap.size < wm.heap.size := by omega
  have hTm : wm.heap[w.heap.size]? = some Z3 := (hbm.block _ (by omega)).trans HT1c.out
  have ttc0 : wm.cell? ⟨w.heap.size, 0, none⟩ = some (.int .i64 0) := (blk_cell hTm 0).trans rfl
  have ttc1 : wm.cell? ⟨w.heap.size, 1, none⟩ = some (.int .i64 0) := (blk_cell hTm 1).trans rfl
  have ttc2 : wm.cell? ⟨w.heap.size, 2, none⟩ = some (.int .i64 0) := (blk_cell hTm 2).trans rfl
  have ttf0 := blk_frozen hTm 0
  have ttf1 := blk_frozen hTm 1
  have ttf2 := blk_frozen hTm 2
  have HXm := Lib.hid (HX1c.out.trans (hbm.mono (by omega)))
  clear hbm hTm
  go_wp2
  refine bodyPost_ret (v := .tuple #[V3 y a b, .int .i64 0, .int .i64 0]) (by simp [results, Tryd.results21, go_sem, *]) rfl ⟨rfl, ?_⟩
  (repeat (first | exact HXm.out | refine below_set ?_ (Nat.le_refl _) | refine below_alloc ?_ _))
set_option maxRecDepth 100000 in
set_option maxHeartbeats 4000000 in
theorem pd_1_0 (s : ByteArray) (w : World) (hG : GlobOk w) (hs : s.size = 8) (hsh : shp s SH 0 0 = (1, 0)) (hf : fit s ⟨#[100, 100, 100, 100, 100, 100, 100, 100]⟩ = 8) (h0 : ¬ (1 ≤ (nmv s 4 2) ∧ (nmv s 4 2) ≤ 12)) :
    Calls Tryd.prog 21 #[.string s] w fun e w' => e = .returned (.tuple #[V3 0 0 0, .int .i64 30, .int .i64 4]) ∧ Below w.heap.size w w' := by
  have HS := Lib.hid (fun W g => shape_call s W g 1 0 hsh)
  have dg0 := dig_of hf 0 4 (by decide) (by decide)
  have HN := Lib.hid (num_call s 0 4 (by decide) (by omega) (by decide) dg0)
  have ybd := nmv_bd s 0 4 (fun j j1 j2 => dg0 j j1 j2)
  have ybd2 : 0 ≤ (nmv s 0 4) ∧ (nmv s 0 4) ≤ 9999 := by omega
  have dg1 := dig_of hf 4 6 (by decide) (by decide)
  have HN0 := Lib.hid (num_call s 4 6 (by decide) (by omega) (by decide) dg1)
  have bd0 := nmv_bd s 4 2 (fun j j1 j2 => dg1 j j1 j2)
  have dg2 := dig_of hf 6 8 (by decide) (by decide)
  have HN1 := Lib.hid (num_call s 6 8 (by decide) (by omega) (by decide) dg2)
  have bd1 := nmv_bd s 6 2 (fun j j1 j2 => dg2 j j1 j2)
  have hl : 8 ≤ s.size := by omega
  have hu : s.size ≤ 8 := by omega
  have HG := Lib.hid hG
  have HB0 := Lib.hid (decide_eq_false h0)
  have HC0 : Hid (∀ W, Calls Tryd.prog 77 #[V3 (nmv s 0 4) (nmv s 4 2) 0] W fun e w' => e = .returned (.bool false) ∧ Below W.heap.size W w') := by
    intro W; have := (fun W => month_any (nmv s 0 4) (nmv s 4 2) 0 W) W; rw [HB0.out] at this; exact this
  clear h0 ybd ybd2 dg0 dg1 bd0 dg2 bd1 hs hsh hf hG
  generalize (nmv s 0 4) = y at *
  generalize (nmv s 4 2) = a at *
  generalize (nmv s 6 2) = b at *
  go_enter Tryd.func21, Tryd.ntmps21
  go_wp2_with (first | (go_at_call 42; (refine (HS.out ((w.alloc Z3).alloc (.cells (SH.map Value.string).toArray 9)) (w.heap.size + 1) (blk_new1 w _ _)).mono ?_); rintro e w1 ⟨rfl, hb1⟩; have HX1 := Lib.hid hb1; have hz1 : w.heap.size + 2 ≤ w1.heap.size := (by have := hb1.size; simp at this; omega); have hT1 : w1.heap[w.heap.size]? = some Z3 := (hb1.block _ (by first | omega | (simp; done) | (simp; omega))).trans (blk_alloc (blk_new w _) _); have HT1 := Lib.hid hT1; clear hb1 hT1) | (go_at_call 43; (with_reducible refine (HN.out _).mono ?_); rintro e w2 ⟨rfl, hb2⟩; have hz2 : w1.heap.size ≤ w2.heap.size := hb2.size; have HT2 := Lib.hid ((hb2.block _ (by omega)).trans HT1.out); have HX2 := Lib.hid (((((Below.refl _ w).alloc (Nat.le_refl _) _).alloc (by first | omega | (simp; done) | (simp; omega)) _).trans (HX1.out.mono (by first | omega | (simp; done) | (simp; omega)))).trans (hb2.mono (by omega))); clear hb2) | (go_at_call 44; (refine (parts_1 _).mono ?_); rintro e w3 ⟨rfl, rfl⟩))
  refine wp_loop_rounds 3 ?_
  rw [rounds_succ]
  go_wp2_with (first | (go_at_call 43; (with_reducible refine (HN0.out _).mono ?_); rintro e wn0 ⟨rfl, hbn0⟩; have hzn0 : w2.heap.size + 2 < wn0.heap.size := (by have := hbn0.size; simp at this; omega); have hTn0 : wn0.heap[w.heap.size]? = some Z3 := (hbn0.block _ (by first | omega | (simp; done) | (simp; omega))).trans (blk_alloc (blk_alloc (blk_alloc (HT2.out) _) _) _); have hVn0 : wn0.heap[w2.heap.size]? = some (.cells #[.int .i64 y, .int .i64 0, .int .i64 0] 73 (0, 0)) := (hbn0.block _ (by first | omega | (simp; done) | (simp; omega))).trans (blk_alloc (blk_alloc (blk_new w2 _) _) _); have hPn0 : wn0.heap[w2.heap.size + 1]? = some PC1 := (hbn0.block _ (by first | omega | (simp; done) | (simp; omega))).trans (blk_alloc (blk_new1 w2 _ _) _); have hBn0 : wn0.heap[w2.heap.size + 2]? = some (.cells #[.int .i64 4, .int .i64 6, .func (.func 77) #[] #[]] 80 (0, 0)) := (hbn0.block _ (by first | omega | (simp; done) | (simp; omega))).trans (blk_new2 w2 _ _ _); have v0c0 : wn0.cell? ⟨w2.heap.size, 0, none⟩ = some (.int .i64 y) := (blk_cell hVn0 0).trans rfl; have v0c1 : wn0.cell? ⟨w2.heap.size, 1, none⟩ = some (.int .i64 0) := (blk_cell hVn0 1).trans rfl; have v0c2 : wn0.cell? ⟨w2.heap.size, 2, none⟩ = some (.int .i64 0) := (blk_cell hVn0 2).trans rfl; have v0f0 := blk_frozen hVn0 0; have v0f1 := blk_frozen hVn0 1; have v0f2 := blk_frozen hVn0 2; have x0c0 : wn0.cell? ⟨w2.heap.size + 2, 0, none⟩ = some (.int .i64 4) := (blk_cell hBn0 0).trans rfl; have x0c1 : wn0.cell? ⟨w2.heap.size + 2, 1, none⟩ = some (.int .i64 6) := (blk_cell hBn0 1).trans rfl; have x0c2 : wn0.cell? ⟨w2.heap.size + 2, 2, none⟩ = some (.func (.func 77) #[] #[]) := (blk_cell hBn0 2).trans rfl; have HX0n := Lib.hid ((((HX2.out.alloc HX2.out.size _).alloc (by first | omega | (simp; done) | (simp; omega)) _).alloc (by first | omega | (simp; done) | (simp; omega)) _).trans (hbn0.mono (by first | omega | (simp; done) | (simp; omega)))); have HT0n := Lib.hid hTn0; have HV0n := Lib.hid hVn0; have HP0n := Lib.hid hPn0; have HB0n := Lib.hid hBn0; clear hbn0 hTn0 hVn0 hPn0 hBn0))
  (with_reducible refine (HC0.out _).mono ?_)
  rintro e wc0 ⟨rfl, hbc0⟩
  have hzc0 : wn0.heap.size ≤ wc0.heap.size := (by have := hbc0.size; simpa using this)
  have hTc : wc0.heap[w.heap.size]? = some Z3 := (hbc0.block _ (by first | omega | (simp; done) | (simp; omega))).trans (blk_far HT0n.out (by first | omega | (simp; done) | (simp; omega)) _)
  have hBc : wc0.heap[w2.heap.size + 2]? = some (.cells #[.int .i64 4, .int .i64 6, .func (.func 77) #[] #[]] 80 (0, 0)) := (hbc0.block _ (by first | omega | (simp; done) | (simp; omega))).trans (blk_far HB0n.out (by first | omega | (simp; done) | (simp; omega)) _)
  have ttc0 : wc0.cell? ⟨w.heap.size, 0, none⟩ = some (.int .i64 0) := (blk_cell hTc 0).trans rfl
  have ttc1 : wc0.cell? ⟨w.heap.size, 1, none⟩ = some (.int .i64 0) := (blk_cell hTc 1).trans rfl
  have ttc2 : wc0.cell? ⟨w.heap.size, 2, none⟩ = some (.int .i64 0) := (blk_cell hTc 2).trans rfl
  have ttf0 := blk_frozen hTc 0
  have ttf1 := blk_frozen hTc 1
  have ttf2 := blk_frozen hTc 2
  have bbc0 : wc0.cell? ⟨w2.heap.size + 2, 0, none⟩ = some (.int .i64 4) := (blk_cell hBc 0).trans rfl
  have bbc1 : wc0.cell? ⟨w2.heap.size + 2, 1, none⟩ = some (.int .i64 6) := (blk_cell hBc 1).trans rfl
  have bbc2 : wc0.cell? ⟨w2.heap.size + 2, 2, none⟩ = some (.func (.func 77) #[] #[]) := (blk_cell hBc 2).trans rfl
  have HXc := Lib.hid ((below_set HX0n.out (by omega) (j := 1) (v := .int .i64 a)).trans (hbc0.mono (by first | omega | (simp; done) | (simp; omega))))
  clear hbc0 hTc hBc
  go_wp2_with (fail)
  go_region
  all_goals
    go_wp2
    refine bodyPost_ret (v := .tuple #[V3 0 0 0, .int .i64 30, .int .i64 4]) (by simp [results, Tryd.results21, go_sem, *]) rfl ⟨rfl, ?_⟩
    (repeat (first | exact HXc.out | refine below_set ?_ (Nat.le_refl _) | refine Below.drew ?_))
set_option maxRecDepth 100000 in
set_option maxHeartbeats 4000000 in
theorem pd_1_1 (s : ByteArray) (w : World) (hG : GlobOk w) (hs : s.size = 8) (hsh : shp s SH 0 0 = (1, 0)) (hf : fit s ⟨#[100, 100, 100, 100, 100, 100, 100, 100]⟩ = 8) (h0 : (1 ≤ (nmv s 4 2) ∧ (nmv s 4 2) ≤ 12)) (h1 : ¬ (1 ≤ (nmv s 6 2) ∧ (nmv s 6 2) ≤ dim (nmv s 0 4) (nmv s 4 2))) :
    Calls Tryd.prog 21 #[.string s] w fun e w' => e = .returned (.tuple #[V3 0 0 0, .int .i64 30, .int .i64 6]) ∧ Below w.heap.size w w' := by
  have HS := Lib.hid (fun W g => shape_call s W g 1 0 hsh)
  have dg0 := dig_of hf 0 4 (by decide) (by decide)
  have HN := Lib.hid (num_call s 0 4 (by decide) (by omega) (by decide) dg0)
  have ybd := nmv_bd s 0 4 (fun j j1 j2 => dg0 j j1 j2)
  have ybd2 : 0 ≤ (nmv s 0 4) ∧ (nmv s 0 4) ≤ 9999 := by omega
  have dg1 := dig_of hf 4 6 (by decide) (by decide)
  have HN0 := Lib.hid (num_call s 4 6 (by decide) (by omega) (by decide) dg1)
  have bd0 := nmv_bd s 4 2 (fun j j1 j2 => dg1 j j1 j2)
  have dg2 := dig_of hf 6 8 (by decide) (by decide)
  have HN1 := Lib.hid (num_call s 6 8 (by decide) (by omega) (by decide) dg2)
  have bd1 := nmv_bd s 6 2 (fun j j1 j2 => dg2 j j1 j2)
  have hl : 8 ≤ s.size := by omega
  have hu : s.size ≤ 8 := by omega
  have HG := Lib.hid hG
  have HB0 := Lib.hid (decide_eq_true h0)
  have HC0 : Hid (∀ W, Calls Tryd.prog 77 #[V3 (nmv s 0 4) (nmv s 4 2) 0] W fun e w' => e = .returned (.bool true) ∧ Below W.heap.size W w') := by
    intro W; have := (fun W => month_any (nmv s 0 4) (nmv s 4 2) 0 W) W; rw [HB0.out] at this; exact this
  have HB1 := Lib.hid (decide_eq_false h1)
  have HC1 : Hid (∀ W, GlobOk W → Calls Tryd.prog 78 #[V3 (nmv s 0 4) (nmv s 4 2) (nmv s 6 2)] W fun e w' => e = .returned (.bool false) ∧ Below W.heap.size W w') := by
    intro W hW; have := (fun W hW => day_any (nmv s 0 4) (nmv s 4 2) (nmv s 6 2) W hW h0) W hW; rw [HB1.out] at this; exact this
  clear h0 h1 ybd ybd2 dg0 dg1 bd0 dg2 bd1 hs hsh hf hG
  generalize (nmv s 0 4) = y at *
  generalize (nmv s 4 2) = a at *
  generalize (nmv s 6 2) = b at *
  go_enter Tryd.func21, Tryd.ntmps21
  go_wp2_with (first | (go_at_call 42; (refine (HS.out ((w.alloc Z3).alloc (.cells (SH.map Value.string).toArray 9)) (w.heap.size + 1) (blk_new1 w _ _)).mono ?_); rintro e w1 ⟨rfl, hb1⟩; have HX1 := Lib.hid hb1; have hz1 : w.heap.size + 2 ≤ w1.heap.size := (by have := hb1.size; simp at this; omega); have hT1 : w1.heap[w.heap.size]? = some Z3 := (hb1.block _ (by first | omega | (simp; done) | (simp; omega))).trans (blk_alloc (blk_new w _) _); have HT1 := Lib.hid hT1; clear hb1 hT1) | (go_at_call 43; (with_reducible refine (HN.out _).mono ?_); rintro e w2 ⟨rfl, hb2⟩; have hz2 : w1.heap.size ≤ w2.heap.size := hb2.size; have HT2 := Lib.hid ((hb2.block _ (by omega)).trans HT1.out); have HX2 := Lib.hid (((((Below.refl _ w).alloc (Nat.le_refl _) _).alloc (by first | omega | (simp; done) | (simp; omega)) _).trans (HX1.out.mono (by first | omega | (simp; done) | (simp; omega)))).trans (hb2.mono (by omega))); clear hb2) | (go_at_call 44; (refine (parts_1 _).mono ?_); rintro e w3 ⟨rfl, rfl⟩))
  refine wp_loop_rounds 3 ?_
  rw [rounds_succ]
  go_wp2_with (first | (go_at_call 43; (with_reducible refine (HN0.out _).mono ?_); rintro e wn0 ⟨rfl, hbn0⟩; have hzn0 : w2.heap.size + 2 < wn0.heap.size := (by have := hbn0.size; simp at this; omega); have hTn0 : wn0.heap[w.heap.size]? = some Z3 := (hbn0.block _ (by first | omega | (simp; done) | (simp; omega))).trans (blk_alloc (blk_alloc (blk_alloc (HT2.out) _) _) _); have hVn0 : wn0.heap[w2.heap.size]? = some (.cells #[.int .i64 y, .int .i64 0, .int .i64 0] 73 (0, 0)) := (hbn0.block _ (by first | omega | (simp; done) | (simp; omega))).trans (blk_alloc (blk_alloc (blk_new w2 _) _) _); have hPn0 : wn0.heap[w2.heap.size + 1]? = some PC1 := (hbn0.block _ (by first | omega | (simp; done) | (simp; omega))).trans (blk_alloc (blk_new1 w2 _ _) _); have hBn0 : wn0.heap[w2.heap.size + 2]? = some (.cells #[.int .i64 4, .int .i64 6, .func (.func 77) #[] #[]] 80 (0, 0)) := (hbn0.block _ (by first | omega | (simp; done) | (simp; omega))).trans (blk_new2 w2 _ _ _); have v0c0 : wn0.cell? ⟨w2.heap.size, 0, none⟩ = some (.int .i64 y) := (blk_cell hVn0 0).trans rfl; have v0c1 : wn0.cell? ⟨w2.heap.size, 1, none⟩ = some (.int .i64 0) := (blk_cell hVn0 1).trans rfl; have v0c2 : wn0.cell? ⟨w2.heap.size, 2, none⟩ = some (.int .i64 0) := (blk_cell hVn0 2).trans rfl; have v0f0 := blk_frozen hVn0 0; have v0f1 := blk_frozen hVn0 1; have v0f2 := blk_frozen hVn0 2; have x0c0 : wn0.cell? ⟨w2.heap.size + 2, 0, none⟩ = some (.int .i64 4) := (blk_cell hBn0 0).trans rfl; have x0c1 : wn0.cell? ⟨w2.heap.size + 2, 1, none⟩ = some (.int .i64 6) := (blk_cell hBn0 1).trans rfl; have x0c2 : wn0.cell? ⟨w2.heap.size + 2, 2, none⟩ = some (.func (.func 77) #[] #[]) := (blk_cell hBn0 2).trans rfl; have HX0n := Lib.hid ((((HX2.out.alloc HX2.out.size _).alloc (by first | omega | (simp; done) | (simp; omega)) _).alloc (by first | omega | (simp; done) | (simp; omega)) _).trans (hbn0.mono (by first | omega | (simp; done) | (simp; omega)))); have HT0n := Lib.hid hTn0; have HV0n := Lib.hid hVn0; have HP0n := Lib.hid hPn0; have HB0n := Lib.hid hBn0; clear hbn0 hTn0 hVn0 hPn0 hBn0))
  (with_reducible refine (HC0.out _).mono ?_)
  rintro e wc0 ⟨rfl, hbc0⟩
  have hzc0 : wn0.heap.size ≤ wc0.heap.size := (by have := hbc0.size; simpa using this)
  have HT0c := Lib.hid ((hbc0.block _ (by first | omega | (simp; done) | (simp; omega))).trans (blk_far HT0n.out (by first | omega | (simp; done) | (simp; omega)) _))
  have hVc0 : wc0.heap[w2.heap.size]? = some (.cells #[.int .i64 y, .int .i64 a, .int .i64 0] 73 (0, 0)) := ((hbc0.block _ (by first | omega | (simp; done) | (simp; omega))).trans (blk_set HV0n.out _ _)).trans rfl
  have HV0c := Lib.hid hVc0
  have HP0c : Hid (wc0.heap[w2.heap.size + 1]? = some PC1) := (hbc0.block _ (by first | omega | (simp; done) | (simp; omega))).trans (blk_far HP0n.out (by first | omega | (simp; done) | (simp; omega)) _)
  have HX0c := Lib.hid ((below_set HX0n.out (by omega) (j := 1) (v := .int .i64 a)).trans (hbc0.mono (by first | omega | (simp; done) | (simp; omega))))
  clear hbc0
  have hPc0 := HP0c.out
  have p0c0 : wc0.cell? ⟨w2.heap.size + 1, 0, none⟩ = some (.int .i64 4) := (blk_cell hPc0 0).trans rfl
  have p0c1 : wc0.cell? ⟨w2.heap.size + 1, 1, none⟩ = some (.int .i64 6) := (blk_cell hPc0 1).trans rfl
  have p0c2 : wc0.cell? ⟨w2.heap.size + 1, 2, none⟩ = some (.func (.func 77) #[] #[]) := (blk_cell hPc0 2).trans rfl
  have p0c3 : wc0.cell? ⟨w2.heap.size + 1, 3, none⟩ = some (.int .i64 6) := (blk_cell hPc0 3).trans rfl
  have p0c4 : wc0.cell? ⟨w2.heap.size + 1, 4, none⟩ = some (.int .i64 8) := (blk_cell hPc0 4).trans rfl
  have p0c5 : wc0.cell? ⟨w2.heap.size + 1, 5, none⟩ = some (.func (.func 78) #[] #[]) := (blk_cell hPc0 5).trans rfl
  clear hPc0 hVc0
  go_wp2_with (fail)
  rw [rounds_succ]
  go_wp2_with (first | (go_at_call 43; (with_reducible refine (HN1.out _).mono ?_); rintro e wn1 ⟨rfl, hbn1⟩; have hzn1 : wc0.heap.size < wn1.heap.size := (by have := hbn1.size; simp at this; omega); have hTn1 : wn1.heap[w.heap.size]? = some Z3 := (hbn1.block _ (by first | omega | (simp; done) | (simp; omega))).trans (blk_alloc (HT0c.out) _); have hVn1 : wn1.heap[w2.heap.size]? = some (.cells #[.int .i64 y, .int .i64 a, .int .i64 0] 73 (0, 0)) := (hbn1.block _ (by first | omega | (simp; done) | (simp; omega))).trans (blk_alloc HV0c.out _); have hPn1 : wn1.heap[w2.heap.size + 1]? = some PC1 := (hbn1.block _ (by first | omega | (simp; done) | (simp; omega))).trans (blk_alloc HP0c.out _); have hBn1 : wn1.heap[wc0.heap.size]? = some (.cells #[.int .i64 6, .int .i64 8, .func (.func 78) #[] #[]] 80 (0, 0)) := (hbn1.block _ (by first | omega | (simp; done) | (simp; omega))).trans (blk_new wc0 _); have v1c0 : wn1.cell? ⟨w2.heap.size, 0, none⟩ = some (.int .i64 y) := (blk_cell hVn1 0).trans rfl; have v1c1 : wn1.cell? ⟨w2.heap.size, 1, none⟩ = some (.int .i64 a) := (blk_cell hVn1 1).trans rfl; have v1c2 : wn1.cell? ⟨w2.heap.size, 2, none⟩ = some (.int .i64 0) := (blk_cell hVn1 2).trans rfl; have v1f0 := blk_frozen hVn1 0; have v1f1 := blk_frozen hVn1 1; have v1f2 := blk_frozen hVn1 2; have x1c0 : wn1.cell? ⟨wc0.heap.size, 0, none⟩ = some (.int .i64 6) := (blk_cell hBn1 0).trans rfl; have x1c1 : wn1.cell? ⟨wc0.heap.size, 1, none⟩ = some (.int .i64 8) := (blk_cell hBn1 1).trans rfl; have x1c2 : wn1.cell? ⟨wc0.heap.size, 2, none⟩ = some (.func (.func 78) #[] #[]) := (blk_cell hBn1 2).trans rfl; have HX1n := Lib.hid ((HX0c.out.alloc HX0c.out.size _).trans (hbn1.mono (by first | omega | (simp; done) | (simp; omega)))); have HT1n := Lib.hid hTn1; have HV1n := Lib.hid hVn1; have HP1n := Lib.hid hPn1; have HB1n := Lib.hid hBn1; clear hbn1 hTn1 hVn1 hPn1 hBn1))
  (with_reducible refine (HC1.out _ (GlobOk.below HG.out ?gl)).mono ?_)
  case gl => exact below_set HX1n.out (by omega)
  rintro e wc1 ⟨rfl, hbc1⟩
  have hzc1 : wn1.heap.size ≤ wc1.heap.size := (by have := hbc1.size; simpa using this)
  have hTc : wc1.heap[w.heap.size]? = some Z3 := (hbc1.block _ (by first | omega | (simp; done) | (simp; omega))).trans (blk_far HT1n.out (by first | omega | (simp; done) | (simp; omega)) _)
  have hBc : wc1.heap[wc0.heap.size]? = some (.cells #[.int .i64 6, .int .i64 8, .func (.func 78) #[] #[]] 80 (0, 0)) := (hbc1.block _ (by first | omega | (simp; done) | (simp; omega))).trans (blk_far HB1n.out (by first | omega | (simp; done) | (simp; omega)) _)
  have ttc0 : wc1.cell? ⟨w.heap.size, 0, none⟩ = some (.int .i64 0) := (blk_cell hTc 0).trans rfl
  have ttc1 : wc1.cell? ⟨w.heap.size, 1, none⟩ = some (.int .i64 0) := (blk_cell hTc 1).trans rfl
  have ttc2 : wc1.cell? ⟨w.heap.size, 2, none⟩ = some (.int .i64 0) := (blk_cell hTc 2).trans rfl
  have ttf0 := blk_frozen hTc 0
  have ttf1 := blk_frozen hTc 1
  have ttf2 := blk_frozen hTc 2
  have bbc0 : wc1.cell? ⟨wc0.heap.size, 0, none⟩ = some (.int .i64 6) := (blk_cell hBc 0).trans rfl
  have bbc1 : wc1.cell? ⟨wc0.heap.size, 1, none⟩ = some (.int .i64 8) := (blk_cell hBc 1).trans rfl
  have bbc2 : wc1.cell? ⟨wc0.heap.size, 2, none⟩ = some (.func (.func 78) #[] #[]) := (blk_cell hBc 2).trans rfl
  have HXc := Lib.hid ((below_set HX1n.out (by omega) (j := 2) (v := .int .i64 b)).trans (hbc1.mono (by first | omega | (simp; done) | (simp; omega))))
  clear hbc1 hTc hBc
  go_wp2_with (fail)
  go_region
  all_goals
    go_wp2
    refine bodyPost_ret (v := .tuple #[V3 0 0 0, .int .i64 30, .int .i64 6]) (by simp [results, Tryd.results21, go_sem, *]) rfl ⟨rfl, ?_⟩
    (repeat (first | exact HXc.out | refine below_set ?_ (Nat.le_refl _) | refine Below.drew ?_))
end Go.Proofs.YtiklakkkgmilnaaDoor.Ext
set_option linter.unusedVariables false
set_option linter.unusedSimpArgs false
namespace Go.Proofs.YtiklakkkgmilnaaDoor.Ext
open Go.RowKit Go.Proofs.YtiklakkkgmilnaaDoorW.PrintWords Go.Proofs.YtiklakkkgmilnaaDoor.PCal Go.Proofs.YtiklakkkgmilnaaDoor.CalP Go.Proofs.YtiklakkkgmilnaaDoor.GC

set_option maxRecDepth 100000 in
set_option maxHeartbeats 4000000 in
theorem pd_2_ok (s : ByteArray) (w : World) (hG : GlobOk w) (hs : s.size = 8) (hsh : shp s SH 0 0 = (2, 0)) (hf : fit s ⟨#[100, 100, 100, 100, 45, 100, 100, 100]⟩ = 8) (h0 : (1 ≤ (nmv s 5 3) ∧ (nmv s 5 3) ≤ beg ((nmv s 0 4) + 1) - beg (nmv s 0 4))) (r1 r2 r3 r4 : Int) (hr : cal_Of.f 30000 (beg (nmv s 0 4) + (nmv s 5 3) - 1) = some (r1, r2, r3, r4)) (h4 : r4 = 0) :
    Calls Tryd.prog 21 #[.string s] w fun e w' => e = .returned (.tuple #[V3 r1 r2 r3, .int .i64 0, .int .i64 0]) ∧ Below w.heap.size w w' := by
  have HS := Lib.hid (fun W g => shape_call s W g 2 0 hsh)
  have dg0 := dig_of hf 0 4 (by decide) (by decide)
  have HN := Lib.hid (num_call s 0 4 (by decide) (by omega) (by decide) dg0)
  have ybd := nmv_bd s 0 4 (fun j j1 j2 => dg0 j j1 j2)
  have ybd2 : 0 ≤ (nmv s 0 4) ∧ (nmv s 0 4) ≤ 9999 := by omega
  have dg1 := dig_of hf 5 8 (by decide) (by decide)
  have HN0 := Lib.hid (num_call s 5 8 (by decide) (by omega) (by decide) dg1)
  have bd0 := nmv_bd s 5 3 (fun j j1 j2 => dg1 j j1 j2)
  have hl : 8 ≤ s.size := by omega
  have hu : s.size ≤ 8 := by omega
  have HG := Lib.hid hG
  have HB0 := Lib.hid (decide_eq_true h0)
  have HC0 : Hid (∀ W, Calls Tryd.prog 79 #[V3 (nmv s 0 4) (nmv s 5 3) 0] W fun e w' => e = .returned (.bool true) ∧ Below W.heap.size W w') := by
    intro W; have := (fun W => ofYear_any (nmv s 0 4) (nmv s 5 3) 0 W ybd2) W; rw [HB0.out] at this; exact this
  have HM : Hid (∀ W, GlobOk W → Calls Tryd.prog 84 #[V3 (nmv s 0 4) (nmv s 5 3) 0] W fun e w' => e = .returned (.tuple #[V3 r1 r2 r3, .int .i64 r4]) ∧ Below W.heap.size W w') := fun W hW => byYear_any _ _ _ r1 r2 r3 r4 W hW ybd2 (by omega) hr
  clear h0 ybd ybd2 dg0 dg1 bd0 hs hsh hf hG
  clear hr
  subst h4
  generalize (nmv s 0 4) = y at *
  generalize (nmv s 5 3) = a at *
  go_enter Tryd.func21, Tryd.ntmps21
  go_wp2_with (first | (go_at_call 42; (refine (HS.out ((w.alloc Z3).alloc (.cells (SH.map Value.string).toArray 9)) (w.heap.size + 1) (blk_new1 w _ _)).mono ?_); rintro e w1 ⟨rfl, hb1⟩; have HX1 := Lib.hid hb1; have hz1 : w.heap.size + 2 ≤ w1.heap.size := (by have := hb1.size; simp at this; omega); have hT1 : w1.heap[w.heap.size]? = some Z3 := (hb1.block _ (by first | omega | (simp; done) | (simp; omega))).trans (blk_alloc (blk_new w _) _); have HT1 := Lib.hid hT1; clear hb1 hT1) | (go_at_call 43; (with_reducible refine (HN.out _).mono ?_); rintro e w2 ⟨rfl, hb2⟩; have hz2 : w1.heap.size ≤ w2.heap.size := hb2.size; have HT2 := Lib.hid ((hb2.block _ (by omega)).trans HT1.out); have HX2 := Lib.hid (((((Below.refl _ w).alloc (Nat.le_refl _) _).alloc (by first | omega | (simp; done) | (simp; omega)) _).trans (HX1.out.mono (by first | omega | (simp; done) | (simp; omega)))).trans (hb2.mono (by omega))); clear hb2) | (go_at_call 44; (refine (parts_2 _).mono ?_); rintro e w3 ⟨rfl, rfl⟩))
  refine wp_loop_rounds 2 ?_
  rw [rounds_succ]
  go_wp2_with (first | (go_at_call 43; (with_reducible refine (HN0.out _).mono ?_); rintro e wn0 ⟨rfl, hbn0⟩; have hzn0 : w2.heap.size + 2 < wn0.heap.size := (by have := hbn0.size; simp at this; omega); have hTn0 : wn0.heap[w.heap.size]? = some Z3 := (hbn0.block _ (by first | omega | (simp; done) | (simp; omega))).trans (blk_alloc (blk_alloc (blk_alloc (HT2.out) _) _) _); have hVn0 : wn0.heap[w2.heap.size]? = some (.cells #[.int .i64 y, .int .i64 0, .int .i64 0] 73 (0, 0)) := (hbn0.block _ (by first | omega | (simp; done) | (simp; omega))).trans (blk_alloc (blk_alloc (blk_new w2 _) _) _); have hPn0 : wn0.heap[w2.heap.size + 1]? = some PC2 := (hbn0.block _ (by first | omega | (simp; done) | (simp; omega))).trans (blk_alloc (blk_new1 w2 _ _) _); have hBn0 : wn0.heap[w2.heap.size + 2]? = some (.cells #[.int .i64 5, .int .i64 8, .func (.func 79) #[] #[]] 80 (0, 0)) := (hbn0.block _ (by first | omega | (simp; done) | (simp; omega))).trans (blk_new2 w2 _ _ _); have v0c0 : wn0.cell? ⟨w2.heap.size, 0, none⟩ = some (.int .i64 y) := (blk_cell hVn0 0).trans rfl; have v0c1 : wn0.cell? ⟨w2.heap.size, 1, none⟩ = some (.int .i64 0) := (blk_cell hVn0 1).trans rfl; have v0c2 : wn0.cell? ⟨w2.heap.size, 2, none⟩ = some (.int .i64 0) := (blk_cell hVn0 2).trans rfl; have v0f0 := blk_frozen hVn0 0; have v0f1 := blk_frozen hVn0 1; have v0f2 := blk_frozen hVn0 2; have x0c0 : wn0.cell? ⟨w2.heap.size + 2, 0, none⟩ = some (.int .i64 5) := (blk_cell hBn0 0).trans rfl; have x0c1 : wn0.cell? ⟨w2.heap.size + 2, 1, none⟩ = some (.int .i64 8) := (blk_cell hBn0 1).trans rfl; have x0c2 : wn0.cell? ⟨w2.heap.size + 2, 2, none⟩ = some (.func (.func 79) #[] #[]) := (blk_cell hBn0 2).trans rfl; have HX0n := Lib.hid ((((HX2.out.alloc HX2.out.size _).alloc (by first | omega | (simp; done) | (simp; omega)) _).alloc (by first | omega | (simp; done) | (simp; omega)) _).trans (hbn0.mono (by first | omega | (simp; done) | (simp; omega)))); have HT0n := Lib.hid hTn0; have HV0n := Lib.hid hVn0; have HP0n := Lib.hid hPn0; have HB0n := Lib.hid hBn0; clear hbn0 hTn0 hVn0 hPn0 hBn0))
  (with_reducible refine (HC0.out _).mono ?_)
  rintro e wc0 ⟨rfl, hbc0⟩
  have hzc0 : wn0.heap.size ≤ wc0.heap.size := (by have := hbc0.size; simpa using this)
  have HT0c := Lib.hid ((hbc0.block _ (by first | omega | (simp; done) | (simp; omega))).trans (blk_far HT0n.out (by first | omega | (simp; done) | (simp; omega)) _))
  have hVc0 : wc0.heap[w2.heap.size]? = some (.cells #[.int .i64 y, .int .i64 a, .int .i64 0] 73 (0, 0)) := ((hbc0.block _ (by first | omega | (simp; done) | (simp; omega))).trans (blk_set HV0n.out _ _)).trans rfl
  have HV0c := Lib.hid hVc0
  have HP0c : Hid (wc0.heap[w2.heap.size + 1]? = some PC2) := (hbc0.block _ (by first | omega | (simp; done) | (simp; omega))).trans (blk_far HP0n.out (by first | omega | (simp; done) | (simp; omega)) _)
  have HX0c := Lib.hid ((below_set HX0n.out (by omega) (j := 1) (v := .int .i64 a)).trans (hbc0.mono (by first | omega | (simp; done) | (simp; omega))))
  clear hbc0
  have w0c0 : wc0.cell? ⟨w2.heap.size, 0, none⟩ = some (.int .i64 y) := (blk_cell hVc0 0).trans rfl
  have w0c1 : wc0.cell? ⟨w2.heap.size, 1, none⟩ = some (.int .i64 a) := (blk_cell hVc0 1).trans rfl
  have w0c2 : wc0.cell? ⟨w2.heap.size, 2, none⟩ = some (.int .i64 0) := (blk_cell hVc0 2).trans rfl
  clear hVc0
  go_wp2_with (fail)
  rw [rounds_succ]
  go_wp2_with (fail)
  (with_reducible refine (HM.out _ (GlobOk.below HG.out ?gm)).mono ?_)
  case gm => exact HX0c.out
  rintro e wm ⟨rfl, hbm⟩
  have hzm : wc0.heap.size ≤ wm.heap.size := hbm.size
  have hlt : w.heap.size < wm.heap.size := by omega
  have hTm : wm.heap[w.heap.size]? = some Z3 := (hbm.block _ (by omega)).trans HT0c.out
  have ttc0 : wm.cell? ⟨w.heap.size, 0, none⟩ = some (.int .i64 0) := (blk_cell hTm 0).trans rfl
  have ttc1 : wm.cell? ⟨w.heap.size, 1, none⟩ = some (.int .i64 0) := (blk_cell hTm 1).trans rfl
  have ttc2 : wm.cell? ⟨w.heap.size, 2, none⟩ = some (.int .i64 0) := (blk_cell hTm 2).trans rfl
  have ttf0 := blk_frozen hTm 0
  have ttf1 := blk_frozen hTm 1
  have ttf2 := blk_frozen hTm 2
  have HXm := Lib.hid (HX0c.out.trans (hbm.mono (by omega)))
  clear hbm hTm
  go_wp2
  refine bodyPost_ret (v := .tuple #[V3 r1 r2 r3, .int .i64 0, .int .i64 0]) (by simp [results, Tryd.results21, go_sem, *]) rfl ⟨rfl, ?_⟩
  (repeat (first | exact HXm.out | refine below_set ?_ (Nat.le_refl _) | refine below_alloc ?_ _))
set_option maxRecDepth 100000 in
set_option maxHeartbeats 4000000 in
theorem pd_2_e (s : ByteArray) (w : World) (hG : GlobOk w) (hs : s.size = 8) (hsh : shp s SH 0 0 = (2, 0)) (hf : fit s ⟨#[100, 100, 100, 100, 45, 100, 100, 100]⟩ = 8) (h0 : (1 ≤ (nmv s 5 3) ∧ (nmv s 5 3) ≤ beg ((nmv s 0 4) + 1) - beg (nmv s 0 4))) (r1 r2 r3 r4 : Int) (hr : cal_Of.f 30000 (beg (nmv s 0 4) + (nmv s 5 3) - 1) = some (r1, r2, r3, r4)) (h4 : r4 ≠ 0) :
    Calls Tryd.prog 21 #[.string s] w fun e w' => e = .returned (.tuple #[V3 0 0 0, .int .i64 r4, .int .i64 0]) ∧ Below w.heap.size w w' := by
  have HS := Lib.hid (fun W g => shape_call s W g 2 0 hsh)
  have dg0 := dig_of hf 0 4 (by decide) (by decide)
  have HN := Lib.hid (num_call s 0 4 (by decide) (by omega) (by decide) dg0)
  have ybd := nmv_bd s 0 4 (fun j j1 j2 => dg0 j j1 j2)
  have ybd2 : 0 ≤ (nmv s 0 4) ∧ (nmv s 0 4) ≤ 9999 := by omega
  have dg1 := dig_of hf 5 8 (by decide) (by decide)
  have HN0 := Lib.hid (num_call s 5 8 (by decide) (by omega) (by decide) dg1)
  have bd0 := nmv_bd s 5 3 (fun j j1 j2 => dg1 j j1 j2)
  have hl : 8 ≤ s.size := by omega
  have hu : s.size ≤ 8 := by omega
  have HG := Lib.hid hG
  have HB0 := Lib.hid (decide_eq_true h0)
  have HC0 : Hid (∀ W, Calls Tryd.prog 79 #[V3 (nmv s 0 4) (nmv s 5 3) 0] W fun e w' => e = .returned (.bool true) ∧ Below W.heap.size W w') := by
    intro W; have := (fun W => ofYear_any (nmv s 0 4) (nmv s 5 3) 0 W ybd2) W; rw [HB0.out] at this; exact this
  have HM : Hid (∀ W, GlobOk W → Calls Tryd.prog 84 #[V3 (nmv s 0 4) (nmv s 5 3) 0] W fun e w' => e = .returned (.tuple #[V3 r1 r2 r3, .int .i64 r4]) ∧ Below W.heap.size W w') := fun W hW => byYear_any _ _ _ r1 r2 r3 r4 W hW ybd2 (by omega) hr
  clear h0 ybd ybd2 dg0 dg1 bd0 hs hsh hf hG
  clear hr
  have h4b : (r4 != 0) = true := bne_iff_ne.2 h4
  clear h4
  generalize (nmv s 0 4) = y at *
  generalize (nmv s 5 3) = a at *
  go_enter Tryd.func21, Tryd.ntmps21
  go_wp2_with (first | (go_at_call 42; (refine (HS.out ((w.alloc Z3).alloc (.cells (SH.map Value.string).toArray 9)) (w.heap.size + 1) (blk_new1 w _ _)).mono ?_); rintro e w1 ⟨rfl, hb1⟩; have HX1 := Lib.hid hb1; have hz1 : w.heap.size + 2 ≤ w1.heap.size := (by have := hb1.size; simp at this; omega); have hT1 : w1.heap[w.heap.size]? = some Z3 := (hb1.block _ (by first | omega | (simp; done) | (simp; omega))).trans (blk_alloc (blk_new w _) _); have HT1 := Lib.hid hT1; clear hb1 hT1) | (go_at_call 43; (with_reducible refine (HN.out _).mono ?_); rintro e w2 ⟨rfl, hb2⟩; have hz2 : w1.heap.size ≤ w2.heap.size := hb2.size; have HT2 := Lib.hid ((hb2.block _ (by omega)).trans HT1.out); have HX2 := Lib.hid (((((Below.refl _ w).alloc (Nat.le_refl _) _).alloc (by first | omega | (simp; done) | (simp; omega)) _).trans (HX1.out.mono (by first | omega | (simp; done) | (simp; omega)))).trans (hb2.mono (by omega))); clear hb2) | (go_at_call 44; (refine (parts_2 _).mono ?_); rintro e w3 ⟨rfl, rfl⟩))
  refine wp_loop_rounds 2 ?_
  rw [rounds_succ]
  go_wp2_with (first | (go_at_call 43; (with_reducible refine (HN0.out _).mono ?_); rintro e wn0 ⟨rfl, hbn0⟩; have hzn0 : w2.heap.size + 2 < wn0.heap.size := (by have := hbn0.size; simp at this; omega); have hTn0 : wn0.heap[w.heap.size]? = some Z3 := (hbn0.block _ (by first | omega | (simp; done) | (simp; omega))).trans (blk_alloc (blk_alloc (blk_alloc (HT2.out) _) _) _); have hVn0 : wn0.heap[w2.heap.size]? = some (.cells #[.int .i64 y, .int .i64 0, .int .i64 0] 73 (0, 0)) := (hbn0.block _ (by first | omega | (simp; done) | (simp; omega))).trans (blk_alloc (blk_alloc (blk_new w2 _) _) _); have hPn0 : wn0.heap[w2.heap.size + 1]? = some PC2 := (hbn0.block _ (by first | omega | (simp; done) | (simp; omega))).trans (blk_alloc (blk_new1 w2 _ _) _); have hBn0 : wn0.heap[w2.heap.size + 2]? = some (.cells #[.int .i64 5, .int .i64 8, .func (.func 79) #[] #[]] 80 (0, 0)) := (hbn0.block _ (by first | omega | (simp; done) | (simp; omega))).trans (blk_new2 w2 _ _ _); have v0c0 : wn0.cell? ⟨w2.heap.size, 0, none⟩ = some (.int .i64 y) := (blk_cell hVn0 0).trans rfl; have v0c1 : wn0.cell? ⟨w2.heap.size, 1, none⟩ = some (.int .i64 0) := (blk_cell hVn0 1).trans rfl; have v0c2 : wn0.cell? ⟨w2.heap.size, 2, none⟩ = some (.int .i64 0) := (blk_cell hVn0 2).trans rfl; have v0f0 := blk_frozen hVn0 0; have v0f1 := blk_frozen hVn0 1; have v0f2 := blk_frozen hVn0 2; have x0c0 : wn0.cell? ⟨w2.heap.size + 2, 0, none⟩ = some (.int .i64 5) := (blk_cell hBn0 0).trans rfl; have x0c1 : wn0.cell? ⟨w2.heap.size + 2, 1, none⟩ = some (.int .i64 8) := (blk_cell hBn0 1).trans rfl; have x0c2 : wn0.cell? ⟨w2.heap.size + 2, 2, none⟩ = some (.func (.func 79) #[] #[]) := (blk_cell hBn0 2).trans rfl; have HX0n := Lib.hid ((((HX2.out.alloc HX2.out.size _).alloc (by first | omega | (simp; done) | (simp; omega)) _).alloc (by first | omega | (simp; done) | (simp; omega)) _).trans (hbn0.mono (by first | omega | (simp; done) | (simp; omega)))); have HT0n := Lib.hid hTn0; have HV0n := Lib.hid hVn0; have HP0n := Lib.hid hPn0; have HB0n := Lib.hid hBn0; clear hbn0 hTn0 hVn0 hPn0 hBn0))
  (with_reducible refine (HC0.out _).mono ?_)
  rintro e wc0 ⟨rfl, hbc0⟩
  have hzc0 : wn0.heap.size ≤ wc0.heap.size := (by have := hbc0.size; simpa using this)
  have HT0c := Lib.hid ((hbc0.block _ (by first | omega | (simp; done) | (simp; omega))).trans (blk_far HT0n.out (by first | omega | (simp; done) | (simp; omega)) _))
  have hVc0 : wc0.heap[w2.heap.size]? = some (.cells #[.int .i64 y, .int .i64 a, .int .i64 0] 73 (0, 0)) := ((hbc0.block _ (by first | omega | (simp; done) | (simp; omega))).trans (blk_set HV0n.out _ _)).trans rfl
  have HV0c := Lib.hid hVc0
  have HP0c : Hid (wc0.heap[w2.heap.size + 1]? = some PC2) := (hbc0.block _ (by first | omega | (simp; done) | (simp; omega))).trans (blk_far HP0n.out (by first | omega | (simp; done) | (simp; omega)) _)
  have HX0c := Lib.hid ((below_set HX0n.out (by omega) (j := 1) (v := .int .i64 a)).trans (hbc0.mono (by first | omega | (simp; done) | (simp; omega))))
  clear hbc0
  have w0c0 : wc0.cell? ⟨w2.heap.size, 0, none⟩ = some (.int .i64 y) := (blk_cell hVc0 0).trans rfl
  have w0c1 : wc0.cell? ⟨w2.heap.size, 1, none⟩ = some (.int .i64 a) := (blk_cell hVc0 1).trans rfl
  have w0c2 : wc0.cell? ⟨w2.heap.size, 2, none⟩ = some (.int .i64 0) := (blk_cell hVc0 2).trans rfl
  clear hVc0
  go_wp2_with (fail)
  rw [rounds_succ]
  go_wp2_with (fail)
  (with_reducible refine (HM.out _ (GlobOk.below HG.out ?gm)).mono ?_)
  case gm => exact HX0c.out
  rintro e wm ⟨rfl, hbm⟩
  have hzm : wc0.heap.size ≤ wm.heap.size := hbm.size
  have hlt : w.heap.size < wm.heap.size := by omega
  have hTm : wm.heap[w.heap.size]? = some Z3 := (hbm.block _ (by omega)).trans HT0c.out
  have ttc0 : wm.cell? ⟨w.heap.size, 0, none⟩ = some (.int .i64 0) := (blk_cell hTm 0).trans rfl
  have ttc1 : wm.cell? ⟨w.heap.size, 1, none⟩ = some (.int .i64 0) := (blk_cell hTm 1).trans rfl
  have ttc2 : wm.cell? ⟨w.heap.size, 2, none⟩ = some (.int .i64 0) := (blk_cell hTm 2).trans rfl
  have ttf0 := blk_frozen hTm 0
  have ttf1 := blk_frozen hTm 1
  have ttf2 := blk_frozen hTm 2
  have HXm := Lib.hid (HX0c.out.trans (hbm.mono (by omega)))
  clear hbm hTm
  go_wp2
  refine bodyPost_ret (v := .tuple #[V3 0 0 0, .int .i64 r4, .int .i64 0]) (by simp [results, Tryd.results21, go_sem, *]) rfl ⟨rfl, ?_⟩
  (repeat (first | exact HXm.out | refine below_set ?_ (Nat.le_refl _) | refine below_alloc ?_ _))
set_option maxRecDepth 100000 in
set_option maxHeartbeats 4000000 in
theorem pd_2_0 (s : ByteArray) (w : World) (hG : GlobOk w) (hs : s.size = 8) (hsh : shp s SH 0 0 = (2, 0)) (hf : fit s ⟨#[100, 100, 100, 100, 45, 100, 100, 100]⟩ = 8) (h0 : ¬ (1 ≤ (nmv s 5 3) ∧ (nmv s 5 3) ≤ beg ((nmv s 0 4) + 1) - beg (nmv s 0 4))) :
    Calls Tryd.prog 21 #[.string s] w fun e w' => e = .returned (.tuple #[V3 0 0 0, .int .i64 30, .int .i64 5]) ∧ Below w.heap.size w w' := by
  have HS := Lib.hid (fun W g => shape_call s W g 2 0 hsh)
  have dg0 := dig_of hf 0 4 (by decide) (by decide)
  have HN := Lib.hid (num_call s 0 4 (by decide) (by omega) (by decide) dg0)
  have ybd := nmv_bd s 0 4 (fun j j1 j2 => dg0 j j1 j2)
  have ybd2 : 0 ≤ (nmv s 0 4) ∧ (nmv s 0 4) ≤ 9999 := by omega
  have dg1 := dig_of hf 5 8 (by decide) (by decide)
  have HN0 := Lib.hid (num_call s 5 8 (by decide) (by omega) (by decide) dg1)
  have bd0 := nmv_bd s 5 3 (fun j j1 j2 => dg1 j j1 j2)
  have hl : 8 ≤ s.size := by omega
  have hu : s.size ≤ 8 := by omega
  have HG := Lib.hid hG
  have HB0 := Lib.hid (decide_eq_false h0)
  have HC0 : Hid (∀ W, Calls Tryd.prog 79 #[V3 (nmv s 0 4) (nmv s 5 3) 0] W fun e w' => e = .returned (.bool false) ∧ Below W.heap.size W w') := by
    intro W; have := (fun W => ofYear_any (nmv s 0 4) (nmv s 5 3) 0 W ybd2) W; rw [HB0.out] at this; exact this
  clear h0 ybd ybd2 dg0 dg1 bd0 hs hsh hf hG
  generalize (nmv s 0 4) = y at *
  generalize (nmv s 5 3) = a at *
  go_enter Tryd.func21, Tryd.ntmps21
  go_wp2_with (first | (go_at_call 42; (refine (HS.out ((w.alloc Z3).alloc (.cells (SH.map Value.string).toArray 9)) (w.heap.size + 1) (blk_new1 w _ _)).mono ?_); rintro e w1 ⟨rfl, hb1⟩; have HX1 := Lib.hid hb1; have hz1 : w.heap.size + 2 ≤ w1.heap.size := (by have := hb1.size; simp at this; omega); have hT1 : w1.heap[w.heap.size]? = some Z3 := (hb1.block _ (by first | omega | (simp; done) | (simp; omega))).trans (blk_alloc (blk_new w _) _); have HT1 := Lib.hid hT1; clear hb1 hT1) | (go_at_call 43; (with_reducible refine (HN.out _).mono ?_); rintro e w2 ⟨rfl, hb2⟩; have hz2 : w1.heap.size ≤ w2.heap.size := hb2.size; have HT2 := Lib.hid ((hb2.block _ (by omega)).trans HT1.out); have HX2 := Lib.hid (((((Below.refl _ w).alloc (Nat.le_refl _) _).alloc (by first | omega | (simp; done) | (simp; omega)) _).trans (HX1.out.mono (by first | omega | (simp; done) | (simp; omega)))).trans (hb2.mono (by omega))); clear hb2) | (go_at_call 44; (refine (parts_2 _).mono ?_); rintro e w3 ⟨rfl, rfl⟩))
  refine wp_loop_rounds 2 ?_
  rw [rounds_succ]
  go_wp2_with (first | (go_at_call 43; (with_reducible refine (HN0.out _).mono ?_); rintro e wn0 ⟨rfl, hbn0⟩; have hzn0 : w2.heap.size + 2 < wn0.heap.size := (by have := hbn0.size; simp at this; omega); have hTn0 : wn0.heap[w.heap.size]? = some Z3 := (hbn0.block _ (by first | omega | (simp; done) | (simp; omega))).trans (blk_alloc (blk_alloc (blk_alloc (HT2.out) _) _) _); have hVn0 : wn0.heap[w2.heap.size]? = some (.cells #[.int .i64 y, .int .i64 0, .int .i64 0] 73 (0, 0)) := (hbn0.block _ (by first | omega | (simp; done) | (simp; omega))).trans (blk_alloc (blk_alloc (blk_new w2 _) _) _); have hPn0 : wn0.heap[w2.heap.size + 1]? = some PC2 := (hbn0.block _ (by first | omega | (simp; done) | (simp; omega))).trans (blk_alloc (blk_new1 w2 _ _) _); have hBn0 : wn0.heap[w2.heap.size + 2]? = some (.cells #[.int .i64 5, .int .i64 8, .func (.func 79) #[] #[]] 80 (0, 0)) := (hbn0.block _ (by first | omega | (simp; done) | (simp; omega))).trans (blk_new2 w2 _ _ _); have v0c0 : wn0.cell? ⟨w2.heap.size, 0, none⟩ = some (.int .i64 y) := (blk_cell hVn0 0).trans rfl; have v0c1 : wn0.cell? ⟨w2.heap.size, 1, none⟩ = some (.int .i64 0) := (blk_cell hVn0 1).trans rfl; have v0c2 : wn0.cell? ⟨w2.heap.size, 2, none⟩ = some (.int .i64 0) := (blk_cell hVn0 2).trans rfl; have v0f0 := blk_frozen hVn0 0; have v0f1 := blk_frozen hVn0 1; have v0f2 := blk_frozen hVn0 2; have x0c0 : wn0.cell? ⟨w2.heap.size + 2, 0, none⟩ = some (.int .i64 5) := (blk_cell hBn0 0).trans rfl; have x0c1 : wn0.cell? ⟨w2.heap.size + 2, 1, none⟩ = some (.int .i64 8) := (blk_cell hBn0 1).trans rfl; have x0c2 : wn0.cell? ⟨w2.heap.size + 2, 2, none⟩ = some (.func (.func 79) #[] #[]) := (blk_cell hBn0 2).trans rfl; have HX0n := Lib.hid ((((HX2.out.alloc HX2.out.size _).alloc (by first | omega | (simp; done) | (simp; omega)) _).alloc (by first | omega | (simp; done) | (simp; omega)) _).trans (hbn0.mono (by first | omega | (simp; done) | (simp; omega)))); have HT0n := Lib.hid hTn0; have HV0n := Lib.hid hVn0; have HP0n := Lib.hid hPn0; have HB0n := Lib.hid hBn0; clear hbn0 hTn0 hVn0 hPn0 hBn0))
  (with_reducible refine (HC0.out _).mono ?_)
  rintro e wc0 ⟨rfl, hbc0⟩
  have hzc0 : wn0.heap.size ≤ wc0.heap.size := (by have := hbc0.size; simpa using this)
  have hTc : wc0.heap[w.heap.size]? = some Z3 := (hbc0.block _ (by first | omega | (simp; done) | (simp; omega))).trans (blk_far HT0n.out (by first | omega | (simp; done) | (simp; omega)) _)
  have hBc : wc0.heap[w2.heap.size + 2]? = some (.cells #[.int .i64 5, .int .i64 8, .func (.func 79) #[] #[]] 80 (0, 0)) := (hbc0.block _ (by first | omega | (simp; done) | (simp; omega))).trans (blk_far HB0n.out (by first | omega | (simp; done) | (simp; omega)) _)
  have ttc0 : wc0.cell? ⟨w.heap.size, 0, none⟩ = some (.int .i64 0) := (blk_cell hTc 0).trans rfl
  have ttc1 : wc0.cell? ⟨w.heap.size, 1, none⟩ = some (.int .i64 0) := (blk_cell hTc 1).trans rfl
  have ttc2 : wc0.cell? ⟨w.heap.size, 2, none⟩ = some (.int .i64 0) := (blk_cell hTc 2).trans rfl
  have ttf0 := blk_frozen hTc 0
  have ttf1 := blk_frozen hTc 1
  have ttf2 := blk_frozen hTc 2
  have bbc0 : wc0.cell? ⟨w2.heap.size + 2, 0, none⟩ = some (.int .i64 5) := (blk_cell hBc 0).trans rfl
  have bbc1 : wc0.cell? ⟨w2.heap.size + 2, 1, none⟩ = some (.int .i64 8) := (blk_cell hBc 1).trans rfl
  have bbc2 : wc0.cell? ⟨w2.heap.size + 2, 2, none⟩ = some (.func (.func 79) #[] #[]) := (blk_cell hBc 2).trans rfl
  have HXc := Lib.hid ((below_set HX0n.out (by omega) (j := 1) (v := .int .i64 a)).trans (hbc0.mono (by first | omega | (simp; done) | (simp; omega))))
  clear hbc0 hTc hBc
  go_wp2_with (fail)
  go_region
  all_goals
    go_wp2
    refine bodyPost_ret (v := .tuple #[V3 0 0 0, .int .i64 30, .int .i64 5]) (by simp [results, Tryd.results21, go_sem, *]) rfl ⟨rfl, ?_⟩
    (repeat (first | exact HXc.out | refine below_set ?_ (Nat.le_refl _) | refine Below.drew ?_))
set_option maxRecDepth 100000 in
set_option maxHeartbeats 4000000 in
theorem pd_3_ok (s : ByteArray) (w : World) (hG : GlobOk w) (hs : s.size = 7) (hsh : shp s SH 0 0 = (3, 0)) (hf : fit s ⟨#[100, 100, 100, 100, 100, 100, 100]⟩ = 7) (h0 : (1 ≤ (nmv s 4 3) ∧ (nmv s 4 3) ≤ beg ((nmv s 0 4) + 1) - beg (nmv s 0 4))) (r1 r2 r3 r4 : Int) (hr : cal_Of.f 30000 (beg (nmv s 0 4) + (nmv s 4 3) - 1) = some (r1, r2, r3, r4)) (h4 : r4 = 0) :
    Calls Tryd.prog 21 #[.string s] w fun e w' => e = .returned (.tuple #[V3 r1 r2 r3, .int .i64 0, .int .i64 0]) ∧ Below w.heap.size w w' := by
  have HS := Lib.hid (fun W g => shape_call s W g 3 0 hsh)
  have dg0 := dig_of hf 0 4 (by decide) (by decide)
  have HN := Lib.hid (num_call s 0 4 (by decide) (by omega) (by decide) dg0)
  have ybd := nmv_bd s 0 4 (fun j j1 j2 => dg0 j j1 j2)
  have ybd2 : 0 ≤ (nmv s 0 4) ∧ (nmv s 0 4) ≤ 9999 := by omega
  have dg1 := dig_of hf 4 7 (by decide) (by decide)
  have HN0 := Lib.hid (num_call s 4 7 (by decide) (by omega) (by decide) dg1)
  have bd0 := nmv_bd s 4 3 (fun j j1 j2 => dg1 j j1 j2)
  have hl : 7 ≤ s.size := by omega
  have hu : s.size ≤ 7 := by omega
  have HG := Lib.hid hG
  have HB0 := Lib.hid (decide_eq_true h0)
  have HC0 : Hid (∀ W, Calls Tryd.prog 79 #[V3 (nmv s 0 4) (nmv s 4 3) 0] W fun e w' => e = .returned (.bool true) ∧ Below W.heap.size W w') := by
    intro W; have := (fun W => ofYear_any (nmv s 0 4) (nmv s 4 3) 0 W ybd2) W; rw [HB0.out] at this; exact this
  have HM : Hid (∀ W, GlobOk W → Calls Tryd.prog 84 #[V3 (nmv s 0 4) (nmv s 4 3) 0] W fun e w' => e = .returned (.tuple #[V3 r1 r2 r3, .int .i64 r4]) ∧ Below W.heap.size W w') := fun W hW => byYear_any _ _ _ r1 r2 r3 r4 W hW ybd2 (by omega) hr
  clear h0 ybd ybd2 dg0 dg1 bd0 hs hsh hf hG
  clear hr
  subst h4
  generalize (nmv s 0 4) = y at *
  generalize (nmv s 4 3) = a at *
  go_enter Tryd.func21, Tryd.ntmps21
  go_wp2_with (first | (go_at_call 42; (refine (HS.out ((w.alloc Z3).alloc (.cells (SH.map Value.string).toArray 9)) (w.heap.size + 1) (blk_new1 w _ _)).mono ?_); rintro e w1 ⟨rfl, hb1⟩; have HX1 := Lib.hid hb1; have hz1 : w.heap.size + 2 ≤ w1.heap.size := (by have := hb1.size; simp at this; omega); have hT1 : w1.heap[w.heap.size]? = some Z3 := (hb1.block _ (by first | omega | (simp; done) | (simp; omega))).trans (blk_alloc (blk_new w _) _); have HT1 := Lib.hid hT1; clear hb1 hT1) | (go_at_call 43; (with_reducible refine (HN.out _).mono ?_); rintro e w2 ⟨rfl, hb2⟩; have hz2 : w1.heap.size ≤ w2.heap.size := hb2.size; have HT2 := Lib.hid ((hb2.block _ (by omega)).trans HT1.out); have HX2 := Lib.hid (((((Below.refl _ w).alloc (Nat.le_refl _) _).alloc (by first | omega | (simp; done) | (simp; omega)) _).trans (HX1.out.mono (by first | omega | (simp; done) | (simp; omega)))).trans (hb2.mono (by omega))); clear hb2) | (go_at_call 44; (refine (parts_3 _).mono ?_); rintro e w3 ⟨rfl, rfl⟩))
  refine wp_loop_rounds 2 ?_
  rw [rounds_succ]
  go_wp2_with (first | (go_at_call 43; (with_reducible refine (HN0.out _).mono ?_); rintro e wn0 ⟨rfl, hbn0⟩; have hzn0 : w2.heap.size + 2 < wn0.heap.size := (by have := hbn0.size; simp at this; omega); have hTn0 : wn0.heap[w.heap.size]? = some Z3 := (hbn0.block _ (by first | omega | (simp; done) | (simp; omega))).trans (blk_alloc (blk_alloc (blk_alloc (HT2.out) _) _) _); have hVn0 : wn0.heap[w2.heap.size]? = some (.cells #[.int .i64 y, .int .i64 0, .int .i64 0] 73 (0, 0)) := (hbn0.block _ (by first | omega | (simp; done) | (simp; omega))).trans (blk_alloc (blk_alloc (blk_new w2 _) _) _); have hPn0 : wn0.heap[w2.heap.size + 1]? = some PC3 := (hbn0.block _ (by first | omega | (simp; done) | (simp; omega))).trans (blk_alloc (blk_new1 w2 _ _) _); have hBn0 : wn0.heap[w2.heap.size + 2]? = some (.cells #[.int .i64 4, .int .i64 7, .func (.func 79) #[] #[]] 80 (0, 0)) := (hbn0.block _ (by first | omega | (simp; done) | (simp; omega))).trans (blk_new2 w2 _ _ _); have v0c0 : wn0.cell? ⟨w2.heap.size, 0, none⟩ = some (.int .i64 y) := (blk_cell hVn0 0).trans rfl; have v0c1 : wn0.cell? ⟨w2.heap.size, 1, none⟩ = some (.int .i64 0) := (blk_cell hVn0 1).trans rfl; have v0c2 : wn0.cell? ⟨w2.heap.size, 2, none⟩ = some (.int .i64 0) := (blk_cell hVn0 2).trans rfl; have v0f0 := blk_frozen hVn0 0; have v0f1 := blk_frozen hVn0 1; have v0f2 := blk_frozen hVn0 2; have x0c0 : wn0.cell? ⟨w2.heap.size + 2, 0, none⟩ = some (.int .i64 4) := (blk_cell hBn0 0).trans rfl; have x0c1 : wn0.cell? ⟨w2.heap.size + 2, 1, none⟩ = some (.int .i64 7) := (blk_cell hBn0 1).trans rfl; have x0c2 : wn0.cell? ⟨w2.heap.size + 2, 2, none⟩ = some (.func (.func 79) #[] #[]) := (blk_cell hBn0 2).trans rfl; have HX0n := Lib.hid ((((HX2.out.alloc HX2.out.size _).alloc (by first | omega | (simp; done) | (simp; omega)) _).alloc (by first | omega | (simp; done) | (simp; omega)) _).trans (hbn0.mono (by first | omega | (simp; done) | (simp; omega)))); have HT0n := Lib.hid hTn0; have HV0n := Lib.hid hVn0; have HP0n := Lib.hid hPn0; have HB0n := Lib.hid hBn0; clear hbn0 hTn0 hVn0 hPn0 hBn0))
  (with_reducible refine (HC0.out _).mono ?_)
  rintro e wc0 ⟨rfl, hbc0⟩
  have hzc0 : wn0.heap.size ≤ wc0.heap.size := (by have := hbc0.size; simpa using this)
  have HT0c := Lib.hid ((hbc0.block _ (by first | omega | (simp; done) | (simp; omega))).trans (blk_far HT0n.out (by first | omega | (simp; done) | (simp; omega)) _))
  have hVc0 : wc0.heap[w2.heap.size]? = some (.cells #[.int .i64 y, .int .i64 a, .int .i64 0] 73 (0, 0)) := ((hbc0.block _ (by first | omega | (simp; done) | (simp; omega))).trans (blk_set HV0n.out _ _)).trans rfl
  have HV0c := Lib.hid hVc0
  have HP0c : Hid (wc0.heap[w2.heap.size + 1]? = some PC3) := (hbc0.block _ (by first | omega | (simp; done) | (simp; omega))).trans (blk_far HP0n.out (by first | omega | (simp; done) | (simp; omega)) _)
  have HX0c := Lib.hid ((below_set HX0n.out (by omega) (j := 1) (v := .int .i64 a)).trans (hbc0.mono (by first | omega | (simp; done) | (simp; omega))))
  clear hbc0
  have w0c0 : wc0.cell? ⟨w2.heap.size, 0, none⟩ = some (.int .i64 y) := (blk_cell hVc0 0).trans rfl
  have w0c1 : wc0.cell? ⟨w2.heap.size, 1, none⟩ = some (.int .i64 a) := (blk_cell hVc0 1).trans rfl
  have w0c2 : wc0.cell? ⟨w2.heap.size, 2, none⟩ = some (.int .i64 0) := (blk_cell hVc0 2).trans rfl
  clear hVc0
  go_wp2_with (fail)
  rw [rounds_succ]
  go_wp2_with (fail)
  (with_reducible refine (HM.out _ (GlobOk.below HG.out ?gm)).mono ?_)
  case gm => exact HX0c.out
  rintro e wm ⟨rfl, hbm⟩
  have hzm : wc0.heap.size ≤ wm.heap.size := hbm.size
  have hlt : w.heap.size < wm.heap.size := by omega
  have hTm : wm.heap[w.heap.size]? = some Z3 := (hbm.block _ (by omega)).trans HT0c.out
  have ttc0 : wm.cell? ⟨w.heap.size, 0, none⟩ = some (.int .i64 0) := (blk_cell hTm 0).trans rfl
  have ttc1 : wm.cell? ⟨w.heap.size, 1, none⟩ = some (.int .i64 0) := (blk_cell hTm 1).trans rfl
  have ttc2 : wm.cell? ⟨w.heap.size, 2, none⟩ = some (.int .i64 0) := (blk_cell hTm 2).trans rfl
  have ttf0 := blk_frozen hTm 0
  have ttf1 := blk_frozen hTm 1
  have ttf2 := blk_frozen hTm 2
  have HXm := Lib.hid (HX0c.out.trans (hbm.mono (by omega)))
  clear hbm hTm
  go_wp2
  refine bodyPost_ret (v := .tuple #[V3 r1 r2 r3, .int .i64 0, .int .i64 0]) (by simp [results, Tryd.results21, go_sem, *]) rfl ⟨rfl, ?_⟩
  (repeat (first | exact HXm.out | refine below_set ?_ (Nat.le_refl _) | refine below_alloc ?_ _))
set_option maxRecDepth 100000 in
set_option maxHeartbeats 4000000 in
theorem pd_3_e (s : ByteArray) (w : World) (hG : GlobOk w) (hs : s.size = 7) (hsh : shp s SH 0 0 = (3, 0)) (hf : fit s ⟨#[100, 100, 100, 100, 100, 100, 100]⟩ = 7) (h0 : (1 ≤ (nmv s 4 3) ∧ (nmv s 4 3) ≤ beg ((nmv s 0 4) + 1) - beg (nmv s 0 4))) (r1 r2 r3 r4 : Int) (hr : cal_Of.f 30000 (beg (nmv s 0 4) + (nmv s 4 3) - 1) = some (r1, r2, r3, r4)) (h4 : r4 ≠ 0) :
    Calls Tryd.prog 21 #[.string s] w fun e w' => e = .returned (.tuple #[V3 0 0 0, .int .i64 r4, .int .i64 0]) ∧ Below w.heap.size w w' := by
  have HS := Lib.hid (fun W g => shape_call s W g 3 0 hsh)
  have dg0 := dig_of hf 0 4 (by decide) (by decide)
  have HN := Lib.hid (num_call s 0 4 (by decide) (by omega) (by decide) dg0)
  have ybd := nmv_bd s 0 4 (fun j j1 j2 => dg0 j j1 j2)
  have ybd2 : 0 ≤ (nmv s 0 4) ∧ (nmv s 0 4) ≤ 9999 := by omega
  have dg1 := dig_of hf 4 7 (by decide) (by decide)
  have HN0 := Lib.hid (num_call s 4 7 (by decide) (by omega) (by decide) dg1)
  have bd0 := nmv_bd s 4 3 (fun j j1 j2 => dg1 j j1 j2)
  have hl : 7 ≤ s.size := by omega
  have hu : s.size ≤ 7 := by omega
  have HG := Lib.hid hG
  have HB0 := Lib.hid (decide_eq_true h0)
  have HC0 : Hid (∀ W, Calls Tryd.prog 79 #[V3 (nmv s 0 4) (nmv s 4 3) 0] W fun e w' => e = .returned (.bool true) ∧ Below W.heap.size W w') := by
    intro W; have := (fun W => ofYear_any (nmv s 0 4) (nmv s 4 3) 0 W ybd2) W; rw [HB0.out] at this; exact this
  have HM : Hid (∀ W, GlobOk W → Calls Tryd.prog 84 #[V3 (nmv s 0 4) (nmv s 4 3) 0] W fun e w' => e = .returned (.tuple #[V3 r1 r2 r3, .int .i64 r4]) ∧ Below W.heap.size W w') := fun W hW => byYear_any _ _ _ r1 r2 r3 r4 W hW ybd2 (by omega) hr
  clear h0 ybd ybd2 dg0 dg1 bd0 hs hsh hf hG
  clear hr
  have h4b : (r4 != 0) = true := bne_iff_ne.2 h4
  clear h4
  generalize (nmv s 0 4) = y at *
  generalize (nmv s 4 3) = a at *
  go_enter Tryd.func21, Tryd.ntmps21
  go_wp2_with (first | (go_at_call 42; (refine (HS.out ((w.alloc Z3).alloc (.cells (SH.map Value.string).toArray 9)) (w.heap.size + 1) (blk_new1 w _ _)).mono ?_); rintro e w1 ⟨rfl, hb1⟩; have HX1 := Lib.hid hb1; have hz1 : w.heap.size + 2 ≤ w1.heap.size := (by have := hb1.size; simp at this; omega); have hT1 : w1.heap[w.heap.size]? = some Z3 := (hb1.block _ (by first | omega | (simp; done) | (simp; omega))).trans (blk_alloc (blk_new w _) _); have HT1 := Lib.hid hT1; clear hb1 hT1) | (go_at_call 43; (with_reducible refine (HN.out _).mono ?_); rintro e w2 ⟨rfl, hb2⟩; have hz2 : w1.heap.size ≤ w2.heap.size := hb2.size; have HT2 := Lib.hid ((hb2.block _ (by omega)).trans HT1.out); have HX2 := Lib.hid (((((Below.refl _ w).alloc (Nat.le_refl _) _).alloc (by first | omega | (simp; done) | (simp; omega)) _).trans (HX1.out.mono (by first | omega | (simp; done) | (simp; omega)))).trans (hb2.mono (by omega))); clear hb2) | (go_at_call 44; (refine (parts_3 _).mono ?_); rintro e w3 ⟨rfl, rfl⟩))
  refine wp_loop_rounds 2 ?_
  rw [rounds_succ]
  go_wp2_with (first | (go_at_call 43; (with_reducible refine (HN0.out _).mono ?_); rintro e wn0 ⟨rfl, hbn0⟩; have hzn0 : w2.heap.size + 2 < wn0.heap.size := (by have := hbn0.size; simp at this; omega); have hTn0 : wn0.heap[w.heap.size]? = some Z3 := (hbn0.block _ (by first | omega | (simp; done) | (simp; omega))).trans (blk_alloc (blk_alloc (blk_alloc (HT2.out) _) _) _); have hVn0 : wn0.heap[w2.heap.size]? = some (.cells #[.int .i64 y, .int .i64 0, .int .i64 0] 73 (0, 0)) := (hbn0.block _ (by first | omega | (simp; done) | (simp; omega))).trans (blk_alloc (blk_alloc (blk_new w2 _) _) _); have hPn0 : wn0.heap[w2.heap.size + 1]? = some PC3 := (hbn0.block _ (by first | omega | (simp; done) | (simp; omega))).trans (blk_alloc (blk_new1 w2 _ _) _); have hBn0 : wn0.heap[w2.heap.size + 2]? = some (.cells #[.int .i64 4, .int .i64 7, .func (.func 79) #[] #[]] 80 (0, 0)) := (hbn0.block _ (by first | omega | (simp; done) | (simp; omega))).trans (blk_new2 w2 _ _ _); have v0c0 : wn0.cell? ⟨w2.heap.size, 0, none⟩ = some (.int .i64 y) := (blk_cell hVn0 0).trans rfl; have v0c1 : wn0.cell? ⟨w2.heap.size, 1, none⟩ = some (.int .i64 0) := (blk_cell hVn0 1).trans rfl; have v0c2 : wn0.cell? ⟨w2.heap.size, 2, none⟩ = some (.int .i64 0) := (blk_cell hVn0 2).trans rfl; have v0f0 := blk_frozen hVn0 0; have v0f1 := blk_frozen hVn0 1; have v0f2 := blk_frozen hVn0 2; have x0c0 : wn0.cell? ⟨w2.heap.size + 2, 0, none⟩ = some (.int .i64 4) := (blk_cell hBn0 0).trans rfl; have x0c1 : wn0.cell? ⟨w2.heap.size + 2, 1, none⟩ = some (.int .i64 7) := (blk_cell hBn0 1).trans rfl; have x0c2 : wn0.cell? ⟨w2.heap.size + 2, 2, none⟩ = some (.func (.func 79) #[] #[]) := (blk_cell hBn0 2).trans rfl; have HX0n := Lib.hid ((((HX2.out.alloc HX2.out.size _).alloc (by first | omega | (simp; done) | (simp; omega)) _).alloc (by first | omega | (simp; done) | (simp; omega)) _).trans (hbn0.mono (by first | omega | (simp; done) | (simp; omega)))); have HT0n := Lib.hid hTn0; have HV0n := Lib.hid hVn0; have HP0n := Lib.hid hPn0; have HB0n := Lib.hid hBn0; clear hbn0 hTn0 hVn0 hPn0 hBn0))
  (with_reducible refine (HC0.out _).mono ?_)
  rintro e wc0 ⟨rfl, hbc0⟩
  have hzc0 : wn0.heap.size ≤ wc0.heap.size := (by have := hbc0.size; simpa using this)
  have HT0c := Lib.hid ((hbc0.block _ (by first | omega | (simp; done) | (simp; omega))).trans (blk_far HT0n.out (by first | omega | (simp; done) | (simp; omega)) _))
  have hVc0 : wc0.heap[w2.heap.size]? = some (.cells #[.int .i64 y, .int .i64 a, .int .i64 0] 73 (0, 0)) := ((hbc0.block _ (by first | omega | (simp; done) | (simp; omega))).trans (blk_set HV0n.out _ _)).trans rfl
  have HV0c := Lib.hid hVc0
  have HP0c : Hid (wc0.heap[w2.heap.size + 1]? = some PC3) := (hbc0.block _ (by first | omega | (simp; done) | (simp; omega))).trans (blk_far HP0n.out (by first | omega | (simp; done) | (simp; omega)) _)
  have HX0c := Lib.hid ((below_set HX0n.out (by omega) (j := 1) (v := .int .i64 a)).trans (hbc0.mono (by first | omega | (simp; done) | (simp; omega))))
  clear hbc0
  have w0c0 : wc0.cell? ⟨w2.heap.size, 0, none⟩ = some (.int .i64 y) := (blk_cell hVc0 0).trans rfl
  have w0c1 : wc0.cell? ⟨w2.heap.size, 1, none⟩ = some (.int .i64 a) := (blk_cell hVc0 1).trans rfl
  have w0c2 : wc0.cell? ⟨w2.heap.size, 2, none⟩ = some (.int .i64 0) := (blk_cell hVc0 2).trans rfl
  clear hVc0
  go_wp2_with (fail)
  rw [rounds_succ]
  go_wp2_with (fail)
  (with_reducible refine (HM.out _ (GlobOk.below HG.out ?gm)).mono ?_)
  case gm => exact HX0c.out
  rintro e wm ⟨rfl, hbm⟩
  have hzm : wc0.heap.size ≤ wm.heap.size := hbm.size
  have hlt : w.heap.size < wm.heap.size := by omega
  have hTm : wm.heap[w.heap.size]? = some Z3 := (hbm.block _ (by omega)).trans HT0c.out
  have ttc0 : wm.cell? ⟨w.heap.size, 0, none⟩ = some (.int .i64 0) := (blk_cell hTm 0).trans rfl
  have ttc1 : wm.cell? ⟨w.heap.size, 1, none⟩ = some (.int .i64 0) := (blk_cell hTm 1).trans rfl
  have ttc2 : wm.cell? ⟨w.heap.size, 2, none⟩ = some (.int .i64 0) := (blk_cell hTm 2).trans rfl
  have ttf0 := blk_frozen hTm 0
  have ttf1 := blk_frozen hTm 1
  have ttf2 := blk_frozen hTm 2
  have HXm := Lib.hid (HX0c.out.trans (hbm.mono (by omega)))
  clear hbm hTm
  go_wp2
  refine bodyPost_ret (v := .tuple #[V3 0 0 0, .int .i64 r4, .int .i64 0]) (by simp [results, Tryd.results21, go_sem, *]) rfl ⟨rfl, ?_⟩
  (repeat (first | exact HXm.out | refine below_set ?_ (Nat.le_refl _) | refine below_alloc ?_ _))
set_option maxRecDepth 100000 in
set_option maxHeartbeats 4000000 in
theorem pd_3_0 (s : ByteArray) (w : World) (hG : GlobOk w) (hs : s.size = 7) (hsh : shp s SH 0 0 = (3, 0)) (hf : fit s ⟨#[100, 100, 100, 100, 100, 100, 100]⟩ = 7) (h0 : ¬ (1 ≤ (nmv s 4 3) ∧ (nmv s 4 3) ≤ beg ((nmv s 0 4) + 1) - beg (nmv s 0 4))) :
    Calls Tryd.prog 21 #[.string s] w fun e w' => e = .returned (.tuple #[V3 0 0 0, .int .i64 30, .int .i64 4]) ∧ Below w.heap.size w w' := by
  have HS := Lib.hid (fun W g => shape_call s W g 3 0 hsh)
  have dg0 := dig_of hf 0 4 (by decide) (by decide)
  have HN := Lib.hid (num_call s 0 4 (by decide) (by omega) (by decide) dg0)
  have ybd := nmv_bd s 0 4 (fun j j1 j2 => dg0 j j1 j2)
  have ybd2 : 0 ≤ (nmv s 0 4) ∧ (nmv s 0 4) ≤ 9999 := by omega
  have dg1 := dig_of hf 4 7 (by decide) (by decide)
  have HN0 := Lib.hid (num_call s 4 7 (by decide) (by omega) (by decide) dg1)
  have bd0 := nmv_bd s 4 3 (fun j j1 j2 => dg1 j j1 j2)
  have hl : 7 ≤ s.size := by omega
  have hu : s.size ≤ 7 := by omega
  have HG := Lib.hid hG
  have HB0 := Lib.hid (decide_eq_false h0)
  have HC0 : Hid (∀ W, Calls Tryd.prog 79 #[V3 (nmv s 0 4) (nmv s 4 3) 0] W fun e w' => e = .returned (.bool false) ∧ Below W.heap.size W w') := by
    intro W; have := (fun W => ofYear_any (nmv s 0 4) (nmv s 4 3) 0 W ybd2) W; rw [HB0.out] at this; exact this
  clear h0 ybd ybd2 dg0 dg1 bd0 hs hsh hf hG
  generalize (nmv s 0 4) = y at *
  generalize (nmv s 4 3) = a at *
  go_enter Tryd.func21, Tryd.ntmps21
  go_wp2_with (first | (go_at_call 42; (refine (HS.out ((w.alloc Z3).alloc (.cells (SH.map Value.string).toArray 9)) (w.heap.size + 1) (blk_new1 w _ _)).mono ?_); rintro e w1 ⟨rfl, hb1⟩; have HX1 := Lib.hid hb1; have hz1 : w.heap.size + 2 ≤ w1.heap.size := (by have := hb1.size; simp at this; omega); have hT1 : w1.heap[w.heap.size]? = some Z3 := (hb1.block _ (by first | omega | (simp; done) | (simp; omega))).trans (blk_alloc (blk_new w _) _); have HT1 := Lib.hid hT1; clear hb1 hT1) | (go_at_call 43; (with_reducible refine (HN.out _).mono ?_); rintro e w2 ⟨rfl, hb2⟩; have hz2 : w1.heap.size ≤ w2.heap.size := hb2.size; have HT2 := Lib.hid ((hb2.block _ (by omega)).trans HT1.out); have HX2 := Lib.hid (((((Below.refl _ w).alloc (Nat.le_refl _) _).alloc (by first | omega | (simp; done) | (simp; omega)) _).trans (HX1.out.mono (by first | omega | (simp; done) | (simp; omega)))).trans (hb2.mono (by omega))); clear hb2) | (go_at_call 44; (refine (parts_3 _).mono ?_); rintro e w3 ⟨rfl, rfl⟩))
  refine wp_loop_rounds 2 ?_
  rw [rounds_succ]
  go_wp2_with (first | (go_at_call 43; (with_reducible refine (HN0.out _).mono ?_); rintro e wn0 ⟨rfl, hbn0⟩; have hzn0 : w2.heap.size + 2 < wn0.heap.size := (by have := hbn0.size; simp at this; omega); have hTn0 : wn0.heap[w.heap.size]? = some Z3 := (hbn0.block _ (by first | omega | (simp; done) | (simp; omega))).trans (blk_alloc (blk_alloc (blk_alloc (HT2.out) _) _) _); have hVn0 : wn0.heap[w2.heap.size]? = some (.cells #[.int .i64 y, .int .i64 0, .int .i64 0] 73 (0, 0)) := (hbn0.block _ (by first | omega | (simp; done) | (simp; omega))).trans (blk_alloc (blk_alloc (blk_new w2 _) _) _); have hPn0 : wn0.heap[w2.heap.size + 1]? = some PC3 := (hbn0.block _ (by first | omega | (simp; done) | (simp; omega))).trans (blk_alloc (blk_new1 w2 _ _) _); have hBn0 : wn0.heap[w2.heap.size + 2]? = some (.cells #[.int .i64 4, .int .i64 7, .func (.func 79) #[] #[]] 80 (0, 0)) := (hbn0.block _ (by first | omega | (simp; done) | (simp; omega))).trans (blk_new2 w2 _ _ _); have v0c0 : wn0.cell? ⟨w2.heap.size, 0, none⟩ = some (.int .i64 y) := (blk_cell hVn0 0).trans rfl; have v0c1 : wn0.cell? ⟨w2.heap.size, 1, none⟩ = some (.int .i64 0) := (blk_cell hVn0 1).trans rfl; have v0c2 : wn0.cell? ⟨w2.heap.size, 2, none⟩ = some (.int .i64 0) := (blk_cell hVn0 2).trans rfl; have v0f0 := blk_frozen hVn0 0; have v0f1 := blk_frozen hVn0 1; have v0f2 := blk_frozen hVn0 2; have x0c0 : wn0.cell? ⟨w2.heap.size + 2, 0, none⟩ = some (.int .i64 4) := (blk_cell hBn0 0).trans rfl; have x0c1 : wn0.cell? ⟨w2.heap.size + 2, 1, none⟩ = some (.int .i64 7) := (blk_cell hBn0 1).trans rfl; have x0c2 : wn0.cell? ⟨w2.heap.size + 2, 2, none⟩ = some (.func (.func 79) #[] #[]) := (blk_cell hBn0 2).trans rfl; have HX0n := Lib.hid ((((HX2.out.alloc HX2.out.size _).alloc (by first | omega | (simp; done) | (simp; omega)) _).alloc (by first | omega | (simp; done) | (simp; omega)) _).trans (hbn0.mono (by first | omega | (simp; done) | (simp; omega)))); have HT0n := Lib.hid hTn0; have HV0n := Lib.hid hVn0; have HP0n := Lib.hid hPn0; have HB0n := Lib.hid hBn0; clear hbn0 hTn0 hVn0 hPn0 hBn0))
  (with_reducible refine (HC0.out _).mono ?_)
  rintro e wc0 ⟨rfl, hbc0⟩
  have hzc0 : wn0.heap.size ≤ wc0.heap.size := (by have := hbc0.size; simpa using this)
  have hTc : wc0.heap[w.heap.size]? = some Z3 := (hbc0.block _ (by first | omega | (simp; done) | (simp; omega))).trans (blk_far HT0n.out (by first | omega | (simp; done) | (simp; omega)) _)
  have hBc : wc0.heap[w2.heap.size + 2]? = some (.cells #[.int .i64 4, .int .i64 7, .func (.func 79) #[] #[]] 80 (0, 0)) := (hbc0.block _ (by first | omega | (simp; done) | (simp; omega))).trans (blk_far HB0n.out (by first | omega | (simp; done) | (simp; omega)) _)
  have ttc0 : wc0.cell? ⟨w.heap.size, 0, none⟩ = some (.int .i64 0) := (blk_cell hTc 0).trans rfl
  have ttc1 : wc0.cell? ⟨w.heap.size, 1, none⟩ = some (.int .i64 0) := (blk_cell hTc 1).trans rfl
  have ttc2 : wc0.cell? ⟨w.heap.size, 2, none⟩ = some (.int .i64 0) := (blk_cell hTc 2).trans rfl
  have ttf0 := blk_frozen hTc 0
  have ttf1 := blk_frozen hTc 1
  have ttf2 := blk_frozen hTc 2
  have bbc0 : wc0.cell? ⟨w2.heap.size + 2, 0, none⟩ = some (.int .i64 4) := (blk_cell hBc 0).trans rfl
  have bbc1 : wc0.cell? ⟨w2.heap.size + 2, 1, none⟩ = some (.int .i64 7) := (blk_cell hBc 1).trans rfl
  have bbc2 : wc0.cell? ⟨w2.heap.size + 2, 2, none⟩ = some (.func (.func 79) #[] #[]) := (blk_cell hBc 2).trans rfl
  have HXc := Lib.hid ((below_set HX0n.out (by omega) (j := 1) (v := .int .i64 a)).trans (hbc0.mono (by first | omega | (simp; done) | (simp; omega))))
  clear hbc0 hTc hBc
  go_wp2_with (fail)
  go_region
  all_goals
    go_wp2
    refine bodyPost_ret (v := .tuple #[V3 0 0 0, .int .i64 30, .int .i64 4]) (by simp [results, Tryd.results21, go_sem, *]) rfl ⟨rfl, ?_⟩
    (repeat (first | exact HXc.out | refine below_set ?_ (Nat.le_refl _) | refine Below.drew ?_))
end Go.Proofs.YtiklakkkgmilnaaDoor.Ext
set_option linter.unusedVariables false
set_option linter.unusedSimpArgs false
namespace Go.Proofs.YtiklakkkgmilnaaDoor.Ext
open Go.RowKit Go.Proofs.YtiklakkkgmilnaaDoorW.PrintWords Go.Proofs.YtiklakkkgmilnaaDoor.PCal Go.Proofs.YtiklakkkgmilnaaDoor.CalP Go.Proofs.YtiklakkkgmilnaaDoor.GC

set_option maxRecDepth 100000 in
set_option maxHeartbeats 4000000 in
theorem pd_4_ok (s : ByteArray) (w : World) (hG : GlobOk w) (hs : s.size = 10) (hsh : shp s SH 0 0 = (4, 0)) (hf : fit s ⟨#[100, 100, 100, 100, 45, 87, 100, 100, 45, 100]⟩ = 10) (h0 : (1 ≤ (nmv s 6 2) ∧ (nmv s 6 2) ≤ wks (nmv s 0 4))) (h1 : (1 ≤ (nmv s 9 1) ∧ (nmv s 9 1) ≤ 7)) (r1 r2 r3 r4 : Int) (hr : cal_FromWeek.f 30001 (nmv s 0 4) (nmv s 6 2) (nmv s 9 1) = some (r1, r2, r3, r4)) (h4 : r4 = 0) :
    Calls Tryd.prog 21 #[.string s] w fun e w' => e = .returned (.tuple #[V3 r1 r2 r3, .int .i64 0, .int .i64 0]) ∧ Below w.heap.size w w' := by
  have HS := Lib.hid (fun W g => shape_call s W g 4 0 hsh)
  have dg0 := dig_of hf 0 4 (by decide) (by decide)
  have HN := Lib.hid (num_call s 0 4 (by decide) (by omega) (by decide) dg0)
  have ybd := nmv_bd s 0 4 (fun j j1 j2 => dg0 j j1 j2)
  have ybd2 : 0 ≤ (nmv s 0 4) ∧ (nmv s 0 4) ≤ 9999 := by omega
  have dg1 := dig_of hf 6 8 (by decide) (by decide)
  have HN0 := Lib.hid (num_call s 6 8 (by decide) (by omega) (by decide) dg1)
  have bd0 := nmv_bd s 6 2 (fun j j1 j2 => dg1 j j1 j2)
  have dg2 := dig_of hf 9 10 (by decide) (by decide)
  have HN1 := Lib.hid (num_call s 9 10 (by decide) (by omega) (by decide) dg2)
  have bd1 := nmv_bd s 9 1 (fun j j1 j2 => dg2 j j1 j2)
  have hl : 10 ≤ s.size := by omega
  have hu : s.size ≤ 10 := by omega
  have HG := Lib.hid hG
  have HB0 := Lib.hid (decide_eq_true h0)
  have HC0 : Hid (∀ W, Calls Tryd.prog 80 #[V3 (nmv s 0 4) (nmv s 6 2) 0] W fun e w' => e = .returned (.bool true) ∧ Below W.heap.size W w') := by
    intro W; have := (fun W => week_any (nmv s 0 4) (nmv s 6 2) 0 W ⟨by omega, ybd2.2⟩) W; rw [HB0.out] at this; exact this
  have HB1 := Lib.hid (decide_eq_true h1)
  have HC1 : Hid (∀ W, Calls Tryd.prog 82 #[V3 (nmv s 0 4) (nmv s 6 2) (nmv s 9 1)] W fun e w' => e = .returned (.bool true) ∧ Below W.heap.size W w') := by
    intro W; have := (fun W => ofWeek_any (nmv s 0 4) (nmv s 6 2) (nmv s 9 1) W) W; rw [HB1.out] at this; exact this
  have HM : Hid (∀ W, GlobOk W → Calls Tryd.prog 85 #[V3 (nmv s 0 4) (nmv s 6 2) (nmv s 9 1)] W fun e w' => e = .returned (.tuple #[V3 r1 r2 r3, .int .i64 r4]) ∧ Below W.heap.size W w') := fun W hW => byWeek_any _ _ _ r1 r2 r3 r4 W hW hr
  clear h0 h1 ybd ybd2 dg0 dg1 bd0 dg2 bd1 hs hsh hf hG
  clear hr
  subst h4
  generalize (nmv s 0 4) = y at *
  generalize (nmv s 6 2) = a at *
  generalize (nmv s 9 1) = b at *
  go_enter Tryd.func21, Tryd.ntmps21
  go_wp2_with (first | (go_at_call 42; (refine (HS.out ((w.alloc Z3).alloc (.cells (SH.map Value.string).toArray 9)) (w.heap.size + 1) (blk_new1 w _ _)).mono ?_); rintro e w1 ⟨rfl, hb1⟩; have HX1 := Lib.hid hb1; have hz1 : w.heap.size + 2 ≤ w1.heap.size := (by have := hb1.size; simp at this; omega); have hT1 : w1.heap[w.heap.size]? = some Z3 := (hb1.block _ (by first | omega | (simp; done) | (simp; omega))).trans (blk_alloc (blk_new w _) _); have HT1 := Lib.hid hT1; clear hb1 hT1) | (go_at_call 43; (with_reducible refine (HN.out _).mono ?_); rintro e w2 ⟨rfl, hb2⟩; have hz2 : w1.heap.size ≤ w2.heap.size := hb2.size; have HT2 := Lib.hid ((hb2.block _ (by omega)).trans HT1.out); have HX2 := Lib.hid (((((Below.refl _ w).alloc (Nat.le_refl _) _).alloc (by first | omega | (simp; done) | (simp; omega)) _).trans (HX1.out.mono (by first | omega | (simp; done) | (simp; omega)))).trans (hb2.mono (by omega))); clear hb2) | (go_at_call 44; (refine (parts_4 _).mono ?_); rintro e w3 ⟨rfl, rfl⟩))
  refine wp_loop_rounds 3 ?_
  rw [rounds_succ]
  go_wp2_with (first | (go_at_call 43; (with_reducible refine (HN0.out _).mono ?_); rintro e wn0 ⟨rfl, hbn0⟩; have hzn0 : w2.heap.size + 2 < wn0.heap.size := (by have := hbn0.size; simp at this; omega); have hTn0 : wn0.heap[w.heap.size]? = some Z3 := (hbn0.block _ (by first | omega | (simp; done) | (simp; omega))).trans (blk_alloc (blk_alloc (blk_alloc (HT2.out) _) _) _); have hVn0 : wn0.heap[w2.heap.size]? = some (.cells #[.int .i64 y, .int .i64 0, .int .i64 0] 73 (0, 0)) := (hbn0.block _ (by first | omega | (simp; done) | (simp; omega))).trans (blk_alloc (blk_alloc (blk_new w2 _) _) _); have hPn0 : wn0.heap[w2.heap.size + 1]? = some PC4 := (hbn0.block _ (by first | omega | (simp; done) | (simp; omega))).trans (blk_alloc (blk_new1 w2 _ _) _); have hBn0 : wn0.heap[w2.heap.size + 2]? = some (.cells #[.int .i64 6, .int .i64 8, .func (.func 80) #[] #[]] 80 (0, 0)) := (hbn0.block _ (by first | omega | (simp; done) | (simp; omega))).trans (blk_new2 w2 _ _ _); have v0c0 : wn0.cell? ⟨w2.heap.size, 0, none⟩ = some (.int .i64 y) := (blk_cell hVn0 0).trans rfl; have v0c1 : wn0.cell? ⟨w2.heap.size, 1, none⟩ = some (.int .i64 0) := (blk_cell hVn0 1).trans rfl; have v0c2 : wn0.cell? ⟨w2.heap.size, 2, none⟩ = some (.int .i64 0) := (blk_cell hVn0 2).trans rfl; have v0f0 := blk_frozen hVn0 0; have v0f1 := blk_frozen hVn0 1; have v0f2 := blk_frozen hVn0 2; have x0c0 : wn0.cell? ⟨w2.heap.size + 2, 0, none⟩ = some (.int .i64 6) := (blk_cell hBn0 0).trans rfl; have x0c1 : wn0.cell? ⟨w2.heap.size + 2, 1, none⟩ = some (.int .i64 8) := (blk_cell hBn0 1).trans rfl; have x0c2 : wn0.cell? ⟨w2.heap.size + 2, 2, none⟩ = some (.func (.func 80) #[] #[]) := (blk_cell hBn0 2).trans rfl; have HX0n := Lib.hid ((((HX2.out.alloc HX2.out.size _).alloc (by first | omega | (simp; done) | (simp; omega)) _).alloc (by first | omega | (simp; done) | (simp; omega)) _).trans (hbn0.mono (by first | omega | (simp; done) | (simp; omega)))); have HT0n := Lib.hid hTn0; have HV0n := Lib.hid hVn0; have HP0n := Lib.hid hPn0; have HB0n := Lib.hid hBn0; clear hbn0 hTn0 hVn0 hPn0 hBn0))
  (with_reducible refine (HC0.out _).mono ?_)
  rintro e wc0 ⟨rfl, hbc0⟩
  have hzc0 : wn0.heap.size ≤ wc0.heap.size := (by have := hbc0.size; simpa using this)
  have HT0c := Lib.hid ((hbc0.block _ (by first | omega | (simp; done) | (simp; omega))).trans (blk_far HT0n.out (by first | omega | (simp; done) | (simp; omega)) _))
  have hVc0 : wc0.heap[w2.heap.size]? = some (.cells #[.int .i64 y, .int .i64 a, .int .i64 0] 73 (0, 0)) := ((hbc0.block _ (by first | omega | (simp; done) | (simp; omega))).trans (blk_set HV0n.out _ _)).trans rfl
  have HV0c := Lib.hid hVc0
  have HP0c : Hid (wc0.heap[w2.heap.size + 1]? = some PC4) := (hbc0.block _ (by first | omega | (simp; done) | (simp; omega))).trans (blk_far HP0n.out (by first | omega | (simp; done) | (simp; omega)) _)
  have HX0c := Lib.hid ((below_set HX0n.out (by omega) (j := 1) (v := .int .i64 a)).trans (hbc0.mono (by first | omega | (simp; done) | (simp; omega))))
  clear hbc0
  have hPc0 := HP0c.out
  have p0c0 : wc0.cell? ⟨w2.heap.size + 1, 0, none⟩ = some (.int .i64 6) := (blk_cell hPc0 0).trans rfl
  have p0c1 : wc0.cell? ⟨w2.heap.size + 1, 1, none⟩ = some (.int .i64 8) := (blk_cell hPc0 1).trans rfl
  have p0c2 : wc0.cell? ⟨w2.heap.size + 1, 2, none⟩ = some (.func (.func 80) #[] #[]) := (blk_cell hPc0 2).trans rfl
  have p0c3 : wc0.cell? ⟨w2.heap.size + 1, 3, none⟩ = some (.int .i64 9) := (blk_cell hPc0 3).trans rfl
  have p0c4 : wc0.cell? ⟨w2.heap.size + 1, 4, none⟩ = some (.int .i64 10) := (blk_cell hPc0 4).trans rfl
  have p0c5 : wc0.cell? ⟨w2.heap.size + 1, 5, none⟩ = some (.func (.func 82) #[] #[]) := (blk_cell hPc0 5).trans rfl
  clear hPc0 hVc0
  go_wp2_with (fail)
  rw [rounds_succ]
  go_wp2_with (first | (go_at_call 43; (with_reducible refine (HN1.out _).mono ?_); rintro e wn1 ⟨rfl, hbn1⟩; have hzn1 : wc0.heap.size < wn1.heap.size := (by have := hbn1.size; simp at this; omega); have hTn1 : wn1.heap[w.heap.size]? = some Z3 := (hbn1.block _ (by first | omega | (simp; done) | (simp; omega))).trans (blk_alloc (HT0c.out) _); have hVn1 : wn1.heap[w2.heap.size]? = some (.cells #[.int .i64 y, .int .i64 a, .int .i64 0] 73 (0, 0)) := (hbn1.block _ (by first | omega | (simp; done) | (simp; omega))).trans (blk_alloc HV0c.out _); have hPn1 : wn1.heap[w2.heap.size + 1]? = some PC4 := (hbn1.block _ (by first | omega | (simp; done) | (simp; omega))).trans (blk_alloc HP0c.out _); have hBn1 : wn1.heap[wc0.heap.size]? = some (.cells #[.int .i64 9, .int .i64 10, .func (.func 82) #[] #[]] 80 (0, 0)) := (hbn1.block _ (by first | omega | (simp; done) | (simp; omega))).trans (blk_new wc0 _); have v1c0 : wn1.cell? ⟨w2.heap.size, 0, none⟩ = some (.int .i64 y) := (blk_cell hVn1 0).trans rfl; have v1c1 : wn1.cell? ⟨w2.heap.size, 1, none⟩ = some (.int .i64 a) := (blk_cell hVn1 1).trans rfl; have v1c2 : wn1.cell? ⟨w2.heap.size, 2, none⟩ = some (.int .i64 0) := (blk_cell hVn1 2).trans rfl; have v1f0 := blk_frozen hVn1 0; have v1f1 := blk_frozen hVn1 1; have v1f2 := blk_frozen hVn1 2; have x1c0 : wn1.cell? ⟨wc0.heap.size, 0, none⟩ = some (.int .i64 9) := (blk_cell hBn1 0).trans rfl; have x1c1 : wn1.cell? ⟨wc0.heap.size, 1, none⟩ = some (.int .i64 10) := (blk_cell hBn1 1).trans rfl; have x1c2 : wn1.cell? ⟨wc0.heap.size, 2, none⟩ = some (.func (.func 82) #[] #[]) := (blk_cell hBn1 2).trans rfl; have HX1n := Lib.hid ((HX0c.out.alloc HX0c.out.size _).trans (hbn1.mono (by first | omega | (simp; done) | (simp; omega)))); have HT1n := Lib.hid hTn1; have HV1n := Lib.hid hVn1; have HP1n := Lib.hid hPn1; have HB1n := Lib.hid hBn1; clear hbn1 hTn1 hVn1 hPn1 hBn1))
  (with_reducible refine (HC1.out _).mono ?_)
  rintro e wc1 ⟨rfl, hbc1⟩
  have hzc1 : wn1.heap.size ≤ wc1.heap.size := (by have := hbc1.size; simpa using this)
  have HT1c := Lib.hid ((hbc1.block _ (by first | omega | (simp; done) | (simp; omega))).trans (blk_far HT1n.out (by first | omega | (simp; done) | (simp; omega)) _))
  have hVc1 : wc1.heap[w2.heap.size]? = some (.cells #[.int .i64 y, .int .i64 a, .int .i64 b] 73 (0, 0)) := ((hbc1.block _ (by first | omega | (simp; done) | (simp; omega))).trans (blk_set HV1n.out _ _)).trans rfl
  have HV1c := Lib.hid hVc1
  have HP1c : Hid (wc1.heap[w2.heap.size + 1]? = some PC4) := (hbc1.block _ (by first | omega | (simp; done) | (simp; omega))).trans (blk_far HP1n.out (by first | omega | (simp; done) | (simp; omega)) _)
  have HX1c := Lib.hid ((below_set HX1n.out (by omega) (j := 2) (v := .int .i64 b)).trans (hbc1.mono (by first | omega | (simp; done) | (simp; omega))))
  clear hbc1
  have w1c0 : wc1.cell? ⟨w2.heap.size, 0, none⟩ = some (.int .i64 y) := (blk_cell hVc1 0).trans rfl
  have w1c1 : wc1.cell? ⟨w2.heap.size, 1, none⟩ = some (.int .i64 a) := (blk_cell hVc1 1).trans rfl
  have w1c2 : wc1.cell? ⟨w2.heap.size, 2, none⟩ = some (.int .i64 b) := (blk_cell hVc1 2).trans rfl
  clear hVc1
  go_wp2_with (fail)
  rw [rounds_succ]
  go_wp2_with (fail)
  (with_reducible refine (HM.out _ (GlobOk.below HG.out ?gm)).mono ?_)
  case gm => exact HX1c.out
  rintro e wm ⟨rfl, hbm⟩
  have hzm : wc1.heap.size ≤ wm.heap.size := hbm.size
  have hlt : w.heap.size < wm.heap.size := by omega
  have hTm : wm.heap[w.heap.size]? = some Z3 := (hbm.block _ (by omega)).trans HT1c.out
  have ttc0 : wm.cell? ⟨w.heap.size, 0, none⟩ = some (.int .i64 0) := (blk_cell hTm 0).trans rfl
  have ttc1 : wm.cell? ⟨w.heap.size, 1, none⟩ = some (.int .i64 0) := (blk_cell hTm 1).trans rfl
  have ttc2 : wm.cell? ⟨w.heap.size, 2, none⟩ = some (.int .i64 0) := (blk_cell hTm 2).trans rfl
  have ttf0 := blk_frozen hTm 0
  have ttf1 := blk_frozen hTm 1
  have ttf2 := blk_frozen hTm 2
  have HXm := Lib.hid (HX1c.out.trans (hbm.mono (by omega)))
  clear hbm hTm
  go_wp2
  refine bodyPost_ret (v := .tuple #[V3 r1 r2 r3, .int .i64 0, .int .i64 0]) (by simp [results, Tryd.results21, go_sem, *]) rfl ⟨rfl, ?_⟩
  (repeat (first | exact HXm.out | refine below_set ?_ (Nat.le_refl _) | refine below_alloc ?_ _))
set_option maxRecDepth 100000 in
set_option maxHeartbeats 4000000 in
theorem pd_4_e (s : ByteArray) (w : World) (hG : GlobOk w) (hs : s.size = 10) (hsh : shp s SH 0 0 = (4, 0)) (hf : fit s ⟨#[100, 100, 100, 100, 45, 87, 100, 100, 45, 100]⟩ = 10) (h0 : (1 ≤ (nmv s 6 2) ∧ (nmv s 6 2) ≤ wks (nmv s 0 4))) (h1 : (1 ≤ (nmv s 9 1) ∧ (nmv s 9 1) ≤ 7)) (r1 r2 r3 r4 : Int) (hr : cal_FromWeek.f 30001 (nmv s 0 4) (nmv s 6 2) (nmv s 9 1) = some (r1, r2, r3, r4)) (h4 : r4 ≠ 0) :
    Calls Tryd.prog 21 #[.string s] w fun e w' => e = .returned (.tuple #[V3 0 0 0, .int .i64 r4, .int .i64 0]) ∧ Below w.heap.size w w' := by
  have HS := Lib.hid (fun W g => shape_call s W g 4 0 hsh)
  have dg0 := dig_of hf 0 4 (by decide) (by decide)
  have HN := Lib.hid (num_call s 0 4 (by decide) (by omega) (by decide) dg0)
  have ybd := nmv_bd s 0 4 (fun j j1 j2 => dg0 j j1 j2)
  have ybd2 : 0 ≤ (nmv s 0 4) ∧ (nmv s 0 4) ≤ 9999 := by omega
  have dg1 := dig_of hf 6 8 (by decide) (by decide)
  have HN0 := Lib.hid (num_call s 6 8 (by decide) (by omega) (by decide) dg1)
  have bd0 := nmv_bd s 6 2 (fun j j1 j2 => dg1 j j1 j2)
  have dg2 := dig_of hf 9 10 (by decide) (by decide)
  have HN1 := Lib.hid (num_call s 9 10 (by decide) (by omega) (by decide) dg2)
  have bd1 := nmv_bd s 9 1 (fun j j1 j2 => dg2 j j1 j2)
  have hl : 10 ≤ s.size := by omega
  have hu : s.size ≤ 10 := by omega
  have HG := Lib.hid hG
  have HB0 := Lib.hid (decide_eq_true h0)
  have HC0 : Hid (∀ W, Calls Tryd.prog 80 #[V3 (nmv s 0 4) (nmv s 6 2) 0] W fun e w' => e = .returned (.bool true) ∧ Below W.heap.size W w') := by
    intro W; have := (fun W => week_any (nmv s 0 4) (nmv s 6 2) 0 W ⟨by omega, ybd2.2⟩) W; rw [HB0.out] at this; exact this
  have HB1 := Lib.hid (decide_eq_true h1)
  have HC1 : Hid (∀ W, Calls Tryd.prog 82 #[V3 (nmv s 0 4) (nmv s 6 2) (nmv s 9 1)] W fun e w' => e = .returned (.bool true) ∧ Below W.heap.size W w') := by
    intro W; have := (fun W => ofWeek_any (nmv s 0 4) (nmv s 6 2) (nmv s 9 1) W) W; rw [HB1.out] at this; exact this
  have HM : Hid (∀ W, GlobOk W → Calls Tryd.prog 85 #[V3 (nmv s 0 4) (nmv s 6 2) (nmv s 9 1)] W fun e w' => e = .returned (.tuple #[V3 r1 r2 r3, .int .i64 r4]) ∧ Below W.heap.size W w') := fun W hW => byWeek_any _ _ _ r1 r2 r3 r4 W hW hr
  clear h0 h1 ybd ybd2 dg0 dg1 bd0 dg2 bd1 hs hsh hf hG
  clear hr
  have h4b : (r4 != 0) = true := bne_iff_ne.2 h4
  clear h4
  generalize (nmv s 0 4) = y at *
  generalize (nmv s 6 2) = a at *
  generalize (nmv s 9 1) = b at *
  go_enter Tryd.func21, Tryd.ntmps21
  go_wp2_with (first | (go_at_call 42; (refine (HS.out ((w.alloc Z3).alloc (.cells (SH.map Value.string).toArray 9)) (w.heap.size + 1) (blk_new1 w _ _)).mono ?_); rintro e w1 ⟨rfl, hb1⟩; have HX1 := Lib.hid hb1; have hz1 : w.heap.size + 2 ≤ w1.heap.size := (by have := hb1.size; simp at this; omega); have hT1 : w1.heap[w.heap.size]? = some Z3 := (hb1.block _ (by first | omega | (simp; done) | (simp; omega))).trans (blk_alloc (blk_new w _) _); have HT1 := Lib.hid hT1; clear hb1 hT1) | (go_at_call 43; (with_reducible refine (HN.out _).mono ?_); rintro e w2 ⟨rfl, hb2⟩; have hz2 : w1.heap.size ≤ w2.heap.size := hb2.size; have HT2 := Lib.hid ((hb2.block _ (by omega)).trans HT1.out); have HX2 := Lib.hid (((((Below.refl _ w).alloc (Nat.le_refl _) _).alloc (by first | omega | (simp; done) | (simp; omega)) _).trans (HX1.out.mono (by first | omega | (simp; done) | (simp; omega)))).trans (hb2.mono (by omega))); clear hb2) | (go_at_call 44; (refine (parts_4 _).mono ?_); rintro e w3 ⟨rfl, rfl⟩))
  refine wp_loop_rounds 3 ?_
  rw [rounds_succ]
  go_wp2_with (first | (go_at_call 43; (with_reducible refine (HN0.out _).mono ?_); rintro e wn0 ⟨rfl, hbn0⟩; have hzn0 : w2.heap.size + 2 < wn0.heap.size := (by have := hbn0.size; simp at this; omega); have hTn0 : wn0.heap[w.heap.size]? = some Z3 := (hbn0.block _ (by first | omega | (simp; done) | (simp; omega))).trans (blk_alloc (blk_alloc (blk_alloc (HT2.out) _) _) _); have hVn0 : wn0.heap[w2.heap.size]? = some (.cells #[.int .i64 y, .int .i64 0, .int .i64 0] 73 (0, 0)) := (hbn0.block _ (by first | omega | (simp; done) | (simp; omega))).trans (blk_alloc (blk_alloc (blk_new w2 _) _) _); have hPn0 : wn0.heap[w2.heap.size + 1]? = some PC4 := (hbn0.block _ (by first | omega | (simp; done) | (simp; omega))).trans (blk_alloc (blk_new1 w2 _ _) _); have hBn0 : wn0.heap[w2.heap.size + 2]? = some (.cells #[.int .i64 6, .int .i64 8, .func (.func 80) #[] #[]] 80 (0, 0)) := (hbn0.block _ (by first | omega | (simp; done) | (simp; omega))).trans (blk_new2 w2 _ _ _); have v0c0 : wn0.cell? ⟨w2.heap.size, 0, none⟩ = some (.int .i64 y) := (blk_cell hVn0 0).trans rfl; have v0c1 : wn0.cell? ⟨w2.heap.size, 1, none⟩ = some (.int .i64 0) := (blk_cell hVn0 1).trans rfl; have v0c2 : wn0.cell? ⟨w2.heap.size, 2, none⟩ = some (.int .i64 0) := (blk_cell hVn0 2).trans rfl; have v0f0 := blk_frozen hVn0 0; have v0f1 := blk_frozen hVn0 1; have v0f2 := blk_frozen hVn0 2; have x0c0 : wn0.cell? ⟨w2.heap.size + 2, 0, none⟩ = some (.int .i64 6) := (blk_cell hBn0 0).trans rfl; have x0c1 : wn0.cell? ⟨w2.heap.size + 2, 1, none⟩ = some (.int .i64 8) := (blk_cell hBn0 1).trans rfl; have x0c2 : wn0.cell? ⟨w2.heap.size + 2, 2, none⟩ = some (.func (.func 80) #[] #[]) := (blk_cell hBn0 2).trans rfl; have HX0n := Lib.hid ((((HX2.out.alloc HX2.out.size _).alloc (by first | omega | (simp; done) | (simp; omega)) _).alloc (by first | omega | (simp; done) | (simp; omega)) _).trans (hbn0.mono (by first | omega | (simp; done) | (simp; omega)))); have HT0n := Lib.hid hTn0; have HV0n := Lib.hid hVn0; have HP0n := Lib.hid hPn0; have HB0n := Lib.hid hBn0; clear hbn0 hTn0 hVn0 hPn0 hBn0))
  (with_reducible refine (HC0.out _).mono ?_)
  rintro e wc0 ⟨rfl, hbc0⟩
  have hzc0 : wn0.heap.size ≤ wc0.heap.size := (by have := hbc0.size; simpa using this)
  have HT0c := Lib.hid ((hbc0.block _ (by first | omega | (simp; done) | (simp; omega))).trans (blk_far HT0n.out (by first | omega | (simp; done) | (simp; omega)) _))
  have hVc0 : wc0.heap[w2.heap.size]? = some (.cells #[.int .i64 y, .int .i64 a, .int .i64 0] 73 (0, 0)) := ((hbc0.block _ (by first | omega | (simp; done) | (simp; omega))).trans (blk_set HV0n.out _ _)).trans rfl
  have HV0c := Lib.hid hVc0
  have HP0c : Hid (wc0.heap[w2.heap.size + 1]? = some PC4) := (hbc0.block _ (by first | omega | (simp; done) | (simp; omega))).trans (blk_far HP0n.out (by first | omega | (simp; done) | (simp; omega)) _)
  have HX0c := Lib.hid ((below_set HX0n.out (by omega) (j := 1) (v := .int .i64 a)).trans (hbc0.mono (by first | omega | (simp; done) | (simp; omega))))
  clear hbc0
  have hPc0 := HP0c.out
  have p0c0 : wc0.cell? ⟨w2.heap.size + 1, 0, none⟩ = some (.int .i64 6) := (blk_cell hPc0 0).trans rfl
  have p0c1 : wc0.cell? ⟨w2.heap.size + 1, 1, none⟩ = some (.int .i64 8) := (blk_cell hPc0 1).trans rfl
  have p0c2 : wc0.cell? ⟨w2.heap.size + 1, 2, none⟩ = some (.func (.func 80) #[] #[]) := (blk_cell hPc0 2).trans rfl
  have p0c3 : wc0.cell? ⟨w2.heap.size + 1, 3, none⟩ = some (.int .i64 9) := (blk_cell hPc0 3).trans rfl
  have p0c4 : wc0.cell? ⟨w2.heap.size + 1, 4, none⟩ = some (.int .i64 10) := (blk_cell hPc0 4).trans rfl
  have p0c5 : wc0.cell? ⟨w2.heap.size + 1, 5, none⟩ = some (.func (.func 82) #[] #[]) := (blk_cell hPc0 5).trans rfl
  clear hPc0 hVc0
  go_wp2_with (fail)
  rw [rounds_succ]
  go_wp2_with (first | (go_at_call 43; (with_reducible refine (HN1.out _).mono ?_); rintro e wn1 ⟨rfl, hbn1⟩; have hzn1 : wc0.heap.size < wn1.heap.size := (by have := hbn1.size; simp at this; omega); have hTn1 : wn1.heap[w.heap.size]? = some Z3 := (hbn1.block _ (by first | omega | (simp; done) | (simp; omega))).trans (blk_alloc (HT0c.out) _); have hVn1 : wn1.heap[w2.heap.size]? = some (.cells #[.int .i64 y, .int .i64 a, .int .i64 0] 73 (0, 0)) := (hbn1.block _ (by first | omega | (simp; done) | (simp; omega))).trans (blk_alloc HV0c.out _); have hPn1 : wn1.heap[w2.heap.size + 1]? = some PC4 := (hbn1.block _ (by first | omega | (simp; done) | (simp; omega))).trans (blk_alloc HP0c.out _); have hBn1 : wn1.heap[wc0.heap.size]? = some (.cells #[.int .i64 9, .int .i64 10, .func (.func 82) #[] #[]] 80 (0, 0)) := (hbn1.block _ (by first | omega | (simp; done) | (simp; omega))).trans (blk_new wc0 _); have v1c0 : wn1.cell? ⟨w2.heap.size, 0, none⟩ = some (.int .i64 y) := (blk_cell hVn1 0).trans rfl; have v1c1 : wn1.cell? ⟨w2.heap.size, 1, none⟩ = some (.int .i64 a) := (blk_cell hVn1 1).trans rfl; have v1c2 : wn1.cell? ⟨w2.heap.size, 2, none⟩ = some (.int .i64 0) := (blk_cell hVn1 2).trans rfl; have v1f0 := blk_frozen hVn1 0; have v1f1 := blk_frozen hVn1 1; have v1f2 := blk_frozen hVn1 2; have x1c0 : wn1.cell? ⟨wc0.heap.size, 0, none⟩ = some (.int .i64 9) := (blk_cell hBn1 0).trans rfl; have x1c1 : wn1.cell? ⟨wc0.heap.size, 1, none⟩ = some (.int .i64 10) := (blk_cell hBn1 1).trans rfl; have x1c2 : wn1.cell? ⟨wc0.heap.size, 2, none⟩ = some (.func (.func 82) #[] #[]) := (blk_cell hBn1 2).trans rfl; have HX1n := Lib.hid ((HX0c.out.alloc HX0c.out.size _).trans (hbn1.mono (by first | omega | (simp; done) | (simp; omega)))); have HT1n := Lib.hid hTn1; have HV1n := Lib.hid hVn1; have HP1n := Lib.hid hPn1; have HB1n := Lib.hid hBn1; clear hbn1 hTn1 hVn1 hPn1 hBn1))
  (with_reducible refine (HC1.out _).mono ?_)
  rintro e wc1 ⟨rfl, hbc1⟩
  have hzc1 : wn1.heap.size ≤ wc1.heap.size := (by have := hbc1.size; simpa using this)
  have HT1c := Lib.hid ((hbc1.block _ (by first | omega | (simp; done) | (simp; omega))).trans (blk_far HT1n.out (by first | omega | (simp; done) | (simp; omega)) _))
  have hVc1 : wc1.heap[w2.heap.size]? = some (.cells #[.int .i64 y, .int .i64 a, .int .i64 b] 73 (0, 0)) := ((hbc1.block _ (by first | omega | (simp; done) | (simp; omega))).trans (blk_set HV1n.out _ _)).trans rfl
  have HV1c := Lib.hid hVc1
  have HP1c : Hid (wc1.heap[w2.heap.size + 1]? = some PC4) := (hbc1.block _ (by first | omega | (simp; done) | (simp; omega))).trans (blk_far HP1n.out (by first | omega | (simp; done) | (simp; omega)) _)
  have HX1c := Lib.hid ((below_set HX1n.out (by omega) (j := 2) (v := .int .i64 b)).trans (hbc1.mono (by first | omega | (simp; done) | (simp; omega))))
  clear hbc1
  have w1c0 : wc1.cell? ⟨w2.heap.size, 0, none⟩ = some (.int .i64 y) := (blk_cell hVc1 0).trans rfl
  have w1c1 : wc1.cell? ⟨w2.heap.size, 1, none⟩ = some (.int .i64 a) := (blk_cell hVc1 1).trans rfl
  have w1c2 : wc1.cell? ⟨w2.heap.size, 2, none⟩ = some (.int .i64 b) := (blk_cell hVc1 2).trans rfl
  clear hVc1
  go_wp2_with (fail)
  rw [rounds_succ]
  go_wp2_with (fail)
  (with_reducible refine (HM.out _ (GlobOk.below HG.out ?gm)).mono ?_)
  case gm => exact HX1c.out
  rintro e wm ⟨rfl, hbm⟩
  have hzm : wc1.heap.size ≤ wm.heap.size := hbm.size
  have hlt : w.heap.size < wm.heap.size := by omega
  have hTm : wm.heap[w.heap.size]? = some Z3 := (hbm.block _ (by omega)).trans HT1c.out
  have ttc0 : wm.cell? ⟨w.heap.size, 0, none⟩ = some (.int .i64 0) := (blk_cell hTm 0).trans rfl
  have ttc1 : wm.cell? ⟨w.heap.size, 1, none⟩ = some (.int .i64 0) := (blk_cell hTm 1).trans rfl
  have ttc2 : wm.cell? ⟨w.heap.size, 2, none⟩ = some (.int .i64 0) := (blk_cell hTm 2).trans rfl
  have ttf0 := blk_frozen hTm 0
  have ttf1 := blk_frozen hTm 1
  have ttf2 := blk_frozen hTm 2
  have HXm := Lib.hid (HX1c.out.trans (hbm.mono (by omega)))
  clear hbm hTm
  go_wp2
  refine bodyPost_ret (v := .tuple #[V3 0 0 0, .int .i64 r4, .int .i64 0]) (by simp [results, Tryd.results21, go_sem, *]) rfl ⟨rfl, ?_⟩
  (repeat (first | exact HXm.out | refine below_set ?_ (Nat.le_refl _) | refine below_alloc ?_ _))
set_option maxRecDepth 100000 in
set_option maxHeartbeats 4000000 in
theorem pd_4_0 (s : ByteArray) (w : World) (hG : GlobOk w) (hs : s.size = 10) (hsh : shp s SH 0 0 = (4, 0)) (hf : fit s ⟨#[100, 100, 100, 100, 45, 87, 100, 100, 45, 100]⟩ = 10) (h0 : ¬ (1 ≤ (nmv s 6 2) ∧ (nmv s 6 2) ≤ wks (nmv s 0 4))) :
    Calls Tryd.prog 21 #[.string s] w fun e w' => e = .returned (.tuple #[V3 0 0 0, .int .i64 30, .int .i64 6]) ∧ Below w.heap.size w w' := by
  have HS := Lib.hid (fun W g => shape_call s W g 4 0 hsh)
  have dg0 := dig_of hf 0 4 (by decide) (by decide)
  have HN := Lib.hid (num_call s 0 4 (by decide) (by omega) (by decide) dg0)
  have ybd := nmv_bd s 0 4 (fun j j1 j2 => dg0 j j1 j2)
  have ybd2 : 0 ≤ (nmv s 0 4) ∧ (nmv s 0 4) ≤ 9999 := by omega
  have dg1 := dig_of hf 6 8 (by decide) (by decide)
  have HN0 := Lib.hid (num_call s 6 8 (by decide) (by omega) (by decide) dg1)
  have bd0 := nmv_bd s 6 2 (fun j j1 j2 => dg1 j j1 j2)
  have dg2 := dig_of hf 9 10 (by decide) (by decide)
  have HN1 := Lib.hid (num_call s 9 10 (by decide) (by omega) (by decide) dg2)
  have bd1 := nmv_bd s 9 1 (fun j j1 j2 => dg2 j j1 j2)
  have hl : 10 ≤ s.size := by omega
  have hu : s.size ≤ 10 := by omega
  have HG := Lib.hid hG
  have HB0 := Lib.hid (decide_eq_false h0)
  have HC0 : Hid (∀ W, Calls Tryd.prog 80 #[V3 (nmv s 0 4) (nmv s 6 2) 0] W fun e w' => e = .returned (.bool false) ∧ Below W.heap.size W w') := by
    intro W; have := (fun W => week_any (nmv s 0 4) (nmv s 6 2) 0 W ⟨by omega, ybd2.2⟩) W; rw [HB0.out] at this; exact this
  clear h0 ybd ybd2 dg0 dg1 bd0 dg2 bd1 hs hsh hf hG
  generalize (nmv s 0 4) = y at *
  generalize (nmv s 6 2) = a at *
  generalize (nmv s 9 1) = b at *
  go_enter Tryd.func21, Tryd.ntmps21
  go_wp2_with (first | (go_at_call 42; (refine (HS.out ((w.alloc Z3).alloc (.cells (SH.map Value.string).toArray 9)) (w.heap.size + 1) (blk_new1 w _ _)).mono ?_); rintro e w1 ⟨rfl, hb1⟩; have HX1 := Lib.hid hb1; have hz1 : w.heap.size + 2 ≤ w1.heap.size := (by have := hb1.size; simp at this; omega); have hT1 : w1.heap[w.heap.size]? = some Z3 := (hb1.block _ (by first | omega | (simp; done) | (simp; omega))).trans (blk_alloc (blk_new w _) _); have HT1 := Lib.hid hT1; clear hb1 hT1) | (go_at_call 43; (with_reducible refine (HN.out _).mono ?_); rintro e w2 ⟨rfl, hb2⟩; have hz2 : w1.heap.size ≤ w2.heap.size := hb2.size; have HT2 := Lib.hid ((hb2.block _ (by omega)).trans HT1.out); have HX2 := Lib.hid (((((Below.refl _ w).alloc (Nat.le_refl _) _).alloc (by first | omega | (simp; done) | (simp; omega)) _).trans (HX1.out.mono (by first | omega | (simp; done) | (simp; omega)))).trans (hb2.mono (by omega))); clear hb2) | (go_at_call 44; (refine (parts_4 _).mono ?_); rintro e w3 ⟨rfl, rfl⟩))
  refine wp_loop_rounds 3 ?_
  rw [rounds_succ]
  go_wp2_with (first | (go_at_call 43; (with_reducible refine (HN0.out _).mono ?_); rintro e wn0 ⟨rfl, hbn0⟩; have hzn0 : w2.heap.size + 2 < wn0.heap.size := (by have := hbn0.size; simp at this; omega); have hTn0 : wn0.heap[w.heap.size]? = some Z3 := (hbn0.block _ (by first | omega | (simp; done) | (simp; omega))).trans (blk_alloc (blk_alloc (blk_alloc (HT2.out) _) _) _); have hVn0 : wn0.heap[w2.heap.size]? = some (.cells #[.int .i64 y, .int .i64 0, .int .i64 0] 73 (0, 0)) := (hbn0.block _ (by first | omega | (simp; done) | (simp; omega))).trans (blk_alloc (blk_alloc (blk_new w2 _) _) _); have hPn0 : wn0.heap[w2.heap.size + 1]? = some PC4 := (hbn0.block _ (by first | omega | (simp; done) | (simp; omega))).trans (blk_alloc (blk_new1 w2 _ _) _); have hBn0 : wn0.heap[w2.heap.size + 2]? = some (.cells #[.int .i64 6, .int .i64 8, .func (.func 80) #[] #[]] 80 (0, 0)) := (hbn0.block _ (by first | omega | (simp; done) | (simp; omega))).trans (blk_new2 w2 _ _ _); have v0c0 : wn0.cell? ⟨w2.heap.size, 0, none⟩ = some (.int .i64 y) := (blk_cell hVn0 0).trans rfl; have v0c1 : wn0.cell? ⟨w2.heap.size, 1, none⟩ = some (.int .i64 0) := (blk_cell hVn0 1).trans rfl; have v0c2 : wn0.cell? ⟨w2.heap.size, 2, none⟩ = some (.int .i64 0) := (blk_cell hVn0 2).trans rfl; have v0f0 := blk_frozen hVn0 0; have v0f1 := blk_frozen hVn0 1; have v0f2 := blk_frozen hVn0 2; have x0c0 : wn0.cell? ⟨w2.heap.size + 2, 0, none⟩ = some (.int .i64 6) := (blk_cell hBn0 0).trans rfl; have x0c1 : wn0.cell? ⟨w2.heap.size + 2, 1, none⟩ = some (.int .i64 8) := (blk_cell hBn0 1).trans rfl; have x0c2 : wn0.cell? ⟨w2.heap.size + 2, 2, none⟩ = some (.func (.func 80) #[] #[]) := (blk_cell hBn0 2).trans rfl; have HX0n := Lib.hid ((((HX2.out.alloc HX2.out.size _).alloc (by first | omega | (simp; done) | (simp; omega)) _).alloc (by first | omega | (simp; done) | (simp; omega)) _).trans (hbn0.mono (by first | omega | (simp; done) | (simp; omega)))); have HT0n := Lib.hid hTn0; have HV0n := Lib.hid hVn0; have HP0n := Lib.hid hPn0; have HB0n := Lib.hid hBn0; clear hbn0 hTn0 hVn0 hPn0 hBn0))
  (with_reducible refine (HC0.out _).mono ?_)
  rintro e wc0 ⟨rfl, hbc0⟩
  have hzc0 : wn0.heap.size ≤ wc0.heap.size := (by have := hbc0.size; simpa using this)
  have hTc : wc0.heap[w.heap.size]? = some Z3 := (hbc0.block _ (by first | omega | (simp; done) | (simp; omega))).trans (blk_far HT0n.out (by first | omega | (simp; done) | (simp; omega)) _)
  have hBc : wc0.heap[w2.heap.size + 2]? = some (.cells #[.int .i64 6, .int .i64 8, .func (.func 80) #[] #[]] 80 (0, 0)) := (hbc0.block _ (by first | omega | (simp; done) | (simp; omega))).trans (blk_far HB0n.out (by first | omega | (simp; done) | (simp; omega)) _)
  have ttc0 : wc0.cell? ⟨w.heap.size, 0, none⟩ = some (.int .i64 0) := (blk_cell hTc 0).trans rfl
  have ttc1 : wc0.cell? ⟨w.heap.size, 1, none⟩ = some (.int .i64 0) := (blk_cell hTc 1).trans rfl
  have ttc2 : wc0.cell? ⟨w.heap.size, 2, none⟩ = some (.int .i64 0) := (blk_cell hTc 2).trans rfl
  have ttf0 := blk_frozen hTc 0
  have ttf1 := blk_frozen hTc 1
  have ttf2 := blk_frozen hTc 2
  have bbc0 : wc0.cell? ⟨w2.heap.size + 2, 0, none⟩ = some (.int .i64 6) := (blk_cell hBc 0).trans rfl
  have bbc1 : wc0.cell? ⟨w2.heap.size + 2, 1, none⟩ = some (.int .i64 8) := (blk_cell hBc 1).trans rfl
  have bbc2 : wc0.cell? ⟨w2.heap.size + 2, 2, none⟩ = some (.func (.func 80) #[] #[]) := (blk_cell hBc 2).trans rfl
  have HXc := Lib.hid ((below_set HX0n.out (by omega) (j := 1) (v := .int .i64 a)).trans (hbc0.mono (by first | omega | (simp; done) | (simp; omega))))
  clear hbc0 hTc hBc
  go_wp2_with (fail)
  go_region
  all_goals
    go_wp2
    refine bodyPost_ret (v := .tuple #[V3 0 0 0, .int .i64 30, .int .i64 6]) (by simp [results, Tryd.results21, go_sem, *]) rfl ⟨rfl, ?_⟩
    (repeat (first | exact HXc.out | refine below_set ?_ (Nat.le_refl _) | refine Below.drew ?_))
set_option maxRecDepth 100000 in
set_option maxHeartbeats 4000000 in
theorem pd_4_1 (s : ByteArray) (w : World) (hG : GlobOk w) (hs : s.size = 10) (hsh : shp s SH 0 0 = (4, 0)) (hf : fit s ⟨#[100, 100, 100, 100, 45, 87, 100, 100, 45, 100]⟩ = 10) (h0 : (1 ≤ (nmv s 6 2) ∧ (nmv s 6 2) ≤ wks (nmv s 0 4))) (h1 : ¬ (1 ≤ (nmv s 9 1) ∧ (nmv s 9 1) ≤ 7)) :
    Calls Tryd.prog 21 #[.string s] w fun e w' => e = .returned (.tuple #[V3 0 0 0, .int .i64 30, .int .i64 9]) ∧ Below w.heap.size w w' := by
  have HS := Lib.hid (fun W g => shape_call s W g 4 0 hsh)
  have dg0 := dig_of hf 0 4 (by decide) (by decide)
  have HN := Lib.hid (num_call s 0 4 (by decide) (by omega) (by decide) dg0)
  have ybd := nmv_bd s 0 4 (fun j j1 j2 => dg0 j j1 j2)
  have ybd2 : 0 ≤ (nmv s 0 4) ∧ (nmv s 0 4) ≤ 9999 := by omega
  have dg1 := dig_of hf 6 8 (by decide) (by decide)
  have HN0 := Lib.hid (num_call s 6 8 (by decide) (by omega) (by decide) dg1)
  have bd0 := nmv_bd s 6 2 (fun j j1 j2 => dg1 j j1 j2)
  have dg2 := dig_of hf 9 10 (by decide) (by decide)
  have HN1 := Lib.hid (num_call s 9 10 (by decide) (by omega) (by decide) dg2)
  have bd1 := nmv_bd s 9 1 (fun j j1 j2 => dg2 j j1 j2)
  have hl : 10 ≤ s.size := by omega
  have hu : s.size ≤ 10 := by omega
  have HG := Lib.hid hG
  have HB0 := Lib.hid (decide_eq_true h0)
  have HC0 : Hid (∀ W, Calls Tryd.prog 80 #[V3 (nmv s 0 4) (nmv s 6 2) 0] W fun e w' => e = .returned (.bool true) ∧ Below W.heap.size W w') := by
    intro W; have := (fun W => week_any (nmv s 0 4) (nmv s 6 2) 0 W ⟨by omega, ybd2.2⟩) W; rw [HB0.out] at this; exact this
  have HB1 := Lib.hid (decide_eq_false h1)
  have HC1 : Hid (∀ W, Calls Tryd.prog 82 #[V3 (nmv s 0 4) (nmv s 6 2) (nmv s 9 1)] W fun e w' => e = .returned (.bool false) ∧ Below W.heap.size W w') := by
    intro W; have := (fun W => ofWeek_any (nmv s 0 4) (nmv s 6 2) (nmv s 9 1) W) W; rw [HB1.out] at this; exact this
  clear h0 h1 ybd ybd2 dg0 dg1 bd0 dg2 bd1 hs hsh hf hG
  generalize (nmv s 0 4) = y at *
  generalize (nmv s 6 2) = a at *
  generalize (nmv s 9 1) = b at *
  go_enter Tryd.func21, Tryd.ntmps21
  go_wp2_with (first | (go_at_call 42; (refine (HS.out ((w.alloc Z3).alloc (.cells (SH.map Value.string).toArray 9)) (w.heap.size + 1) (blk_new1 w _ _)).mono ?_); rintro e w1 ⟨rfl, hb1⟩; have HX1 := Lib.hid hb1; have hz1 : w.heap.size + 2 ≤ w1.heap.size := (by have := hb1.size; simp at this; omega); have hT1 : w1.heap[w.heap.size]? = some Z3 := (hb1.block _ (by first | omega | (simp; done) | (simp; omega))).trans (blk_alloc (blk_new w _) _); have HT1 := Lib.hid hT1; clear hb1 hT1) | (go_at_call 43; (with_reducible refine (HN.out _).mono ?_); rintro e w2 ⟨rfl, hb2⟩; have hz2 : w1.heap.size ≤ w2.heap.size := hb2.size; have HT2 := Lib.hid ((hb2.block _ (by omega)).trans HT1.out); have HX2 := Lib.hid (((((Below.refl _ w).alloc (Nat.le_refl _) _).alloc (by first | omega | (simp; done) | (simp; omega)) _).trans (HX1.out.mono (by first | omega | (simp; done) | (simp; omega)))).trans (hb2.mono (by omega))); clear hb2) | (go_at_call 44; (refine (parts_4 _).mono ?_); rintro e w3 ⟨rfl, rfl⟩))
  refine wp_loop_rounds 3 ?_
  rw [rounds_succ]
  go_wp2_with (first | (go_at_call 43; (with_reducible refine (HN0.out _).mono ?_); rintro e wn0 ⟨rfl, hbn0⟩; have hzn0 : w2.heap.size + 2 < wn0.heap.size := (by have := hbn0.size; simp at this; omega); have hTn0 : wn0.heap[w.heap.size]? = some Z3 := (hbn0.block _ (by first | omega | (simp; done) | (simp; omega))).trans (blk_alloc (blk_alloc (blk_alloc (HT2.out) _) _) _); have hVn0 : wn0.heap[w2.heap.size]? = some (.cells #[.int .i64 y, .int .i64 0, .int .i64 0] 73 (0, 0)) := (hbn0.block _ (by first | omega | (simp; done) | (simp; omega))).trans (blk_alloc (blk_alloc (blk_new w2 _) _) _); have hPn0 : wn0.heap[w2.heap.size + 1]? = some PC4 := (hbn0.block _ (by first | omega | (simp; done) | (simp; omega))).trans (blk_alloc (blk_new1 w2 _ _) _); have hBn0 : wn0.heap[w2.heap.size + 2]? = some (.cells #[.int .i64 6, .int .i64 8, .func (.func 80) #[] #[]] 80 (0, 0)) := (hbn0.block _ (by first | omega | (simp; done) | (simp; omega))).trans (blk_new2 w2 _ _ _); have v0c0 : wn0.cell? ⟨w2.heap.size, 0, none⟩ = some (.int .i64 y) := (blk_cell hVn0 0).trans rfl; have v0c1 : wn0.cell? ⟨w2.heap.size, 1, none⟩ = some (.int .i64 0) := (blk_cell hVn0 1).trans rfl; have v0c2 : wn0.cell? ⟨w2.heap.size, 2, none⟩ = some (.int .i64 0) := (blk_cell hVn0 2).trans rfl; have v0f0 := blk_frozen hVn0 0; have v0f1 := blk_frozen hVn0 1; have v0f2 := blk_frozen hVn0 2; have x0c0 : wn0.cell? ⟨w2.heap.size + 2, 0, none⟩ = some (.int .i64 6) := (blk_cell hBn0 0).trans rfl; have x0c1 : wn0.cell? ⟨w2.heap.size + 2, 1, none⟩ = some (.int .i64 8) := (blk_cell hBn0 1).trans rfl; have x0c2 : wn0.cell? ⟨w2.heap.size + 2, 2, none⟩ = some (.func (.func 80) #[] #[]) := (blk_cell hBn0 2).trans rfl; have HX0n := Lib.hid ((((HX2.out.alloc HX2.out.size _).alloc (by first | omega | (simp; done) | (simp; omega)) _).alloc (by first | omega | (simp; done) | (simp; omega)) _).trans (hbn0.mono (by first | omega | (simp; done) | (simp; omega)))); have HT0n := Lib.hid hTn0; have HV0n := Lib.hid hVn0; have HP0n := Lib.hid hPn0; have HB0n := Lib.hid hBn0; clear hbn0 hTn0 hVn0 hPn0 hBn0))
  (with_reducible refine (HC0.out _).mono ?_)
  rintro e wc0 ⟨rfl, hbc0⟩
  have hzc0 : wn0.heap.size ≤ wc0.heap.size := (by have := hbc0.size; simpa using this)
  have HT0c := Lib.hid ((hbc0.block _ (by first | omega | (simp; done) | (simp; omega))).trans (blk_far HT0n.out (by first | omega | (simp; done) | (simp; omega)) _))
  have hVc0 : wc0.heap[w2.heap.size]? = some (.cells #[.int .i64 y, .int .i64 a, .int .i64 0] 73 (0, 0)) := ((hbc0.block _ (by first | omega | (simp; done) | (simp; omega))).trans (blk_set HV0n.out _ _)).trans rfl
  have HV0c := Lib.hid hVc0
  have HP0c : Hid (wc0.heap[w2.heap.size + 1]? = some PC4) := (hbc0.block _ (by first | omega | (simp; done) | (simp; omega))).trans (blk_far HP0n.out (by first | omega | (simp; done) | (simp; omega)) _)
  have HX0c := Lib.hid ((below_set HX0n.out (by omega) (j := 1) (v := .int .i64 a)).trans (hbc0.mono (by first | omega | (simp; done) | (simp; omega))))
  clear hbc0
  have hPc0 := HP0c.out
  have p0c0 : wc0.cell? ⟨w2.heap.size + 1, 0, none⟩ = some (.int .i64 6) := (blk_cell hPc0 0).trans rfl
  have p0c1 : wc0.cell? ⟨w2.heap.size + 1, 1, none⟩ = some (.int .i64 8) := (blk_cell hPc0 1).trans rfl
  have p0c2 : wc0.cell? ⟨w2.heap.size + 1, 2, none⟩ = some (.func (.func 80) #[] #[]) := (blk_cell hPc0 2).trans rfl
  have p0c3 : wc0.cell? ⟨w2.heap.size + 1, 3, none⟩ = some (.int .i64 9) := (blk_cell hPc0 3).trans rfl
  have p0c4 : wc0.cell? ⟨w2.heap.size + 1, 4, none⟩ = some (.int .i64 10) := (blk_cell hPc0 4).trans rfl
  have p0c5 : wc0.cell? ⟨w2.heap.size + 1, 5, none⟩ = some (.func (.func 82) #[] #[]) := (blk_cell hPc0 5).trans rfl
  clear hPc0 hVc0
  go_wp2_with (fail)
  rw [rounds_succ]
  go_wp2_with (first | (go_at_call 43; (with_reducible refine (HN1.out _).mono ?_); rintro e wn1 ⟨rfl, hbn1⟩; have hzn1 : wc0.heap.size < wn1.heap.size := (by have := hbn1.size; simp at this; omega); have hTn1 : wn1.heap[w.heap.size]? = some Z3 := (hbn1.block _ (by first | omega | (simp; done) | (simp; omega))).trans (blk_alloc (HT0c.out) _); have hVn1 : wn1.heap[w2.heap.size]? = some (.cells #[.int .i64 y, .int .i64 a, .int .i64 0] 73 (0, 0)) := (hbn1.block _ (by first | omega | (simp; done) | (simp; omega))).trans (blk_alloc HV0c.out _); have hPn1 : wn1.heap[w2.heap.size + 1]? = some PC4 := (hbn1.block _ (by first | omega | (simp; done) | (simp; omega))).trans (blk_alloc HP0c.out _); have hBn1 : wn1.heap[wc0.heap.size]? = some (.cells #[.int .i64 9, .int .i64 10, .func (.func 82) #[] #[]] 80 (0, 0)) := (hbn1.block _ (by first | omega | (simp; done) | (simp; omega))).trans (blk_new wc0 _); have v1c0 : wn1.cell? ⟨w2.heap.size, 0, none⟩ = some (.int .i64 y) := (blk_cell hVn1 0).trans rfl; have v1c1 : wn1.cell? ⟨w2.heap.size, 1, none⟩ = some (.int .i64 a) := (blk_cell hVn1 1).trans rfl; have v1c2 : wn1.cell? ⟨w2.heap.size, 2, none⟩ = some (.int .i64 0) := (blk_cell hVn1 2).trans rfl; have v1f0 := blk_frozen hVn1 0; have v1f1 := blk_frozen hVn1 1; have v1f2 := blk_frozen hVn1 2; have x1c0 : wn1.cell? ⟨wc0.heap.size, 0, none⟩ = some (.int .i64 9) := (blk_cell hBn1 0).trans rfl; have x1c1 : wn1.cell? ⟨wc0.heap.size, 1, none⟩ = some (.int .i64 10) := (blk_cell hBn1 1).trans rfl; have x1c2 : wn1.cell? ⟨wc0.heap.size, 2, none⟩ = some (.func (.func 82) #[] #[]) := (blk_cell hBn1 2).trans rfl; have HX1n := Lib.hid ((HX0c.out.alloc HX0c.out.size _).trans (hbn1.mono (by first | omega | (simp; done) | (simp; omega)))); have HT1n := Lib.hid hTn1; have HV1n := Lib.hid hVn1; have HP1n := Lib.hid hPn1; have HB1n := Lib.hid hBn1; clear hbn1 hTn1 hVn1 hPn1 hBn1))
  (with_reducible refine (HC1.out _).mono ?_)
  rintro e wc1 ⟨rfl, hbc1⟩
  have hzc1 : wn1.heap.size ≤ wc1.heap.size := (by have := hbc1.size; simpa using this)
  have hTc : wc1.heap[w.heap.size]? = some Z3 := (hbc1.block _ (by first | omega | (simp; done) | (simp; omega))).trans (blk_far HT1n.out (by first | omega | (simp; done) | (simp; omega)) _)
  have hBc : wc1.heap[wc0.heap.size]? = some (.cells #[.int .i64 9, .int .i64 10, .func (.func 82) #[] #[]] 80 (0, 0)) := (hbc1.block _ (by first | omega | (simp; done) | (simp; omega))).trans (blk_far HB1n.out (by first | omega | (simp; done) | (simp; omega)) _)
  have ttc0 : wc1.cell? ⟨w.heap.size, 0, none⟩ = some (.int .i64 0) := (blk_cell hTc 0).trans rfl
  have ttc1 : wc1.cell? ⟨w.heap.size, 1, none⟩ = some (.int .i64 0) := (blk_cell hTc 1).trans rfl
  have ttc2 : wc1.cell? ⟨w.heap.size, 2, none⟩ = some (.int .i64 0) := (blk_cell hTc 2).trans rfl
  have ttf0 := blk_frozen hTc 0
  have ttf1 := blk_frozen hTc 1
  have ttf2 := blk_frozen hTc 2
  have bbc0 : wc1.cell? ⟨wc0.heap.size, 0, none⟩ = some (.int .i64 9) := (blk_cell hBc 0).trans rfl
  have bbc1 : wc1.cell? ⟨wc0.heap.size, 1, none⟩ = some (.int .i64 10) := (blk_cell hBc 1).trans rfl
  have bbc2 : wc1.cell? ⟨wc0.heap.size, 2, none⟩ = some (.func (.func 82) #[] #[]) := (blk_cell hBc 2).trans rfl
  have HXc := Lib.hid ((below_set HX1n.out (by omega) (j := 2) (v := .int .i64 b)).trans (hbc1.mono (by first | omega | (simp; done) | (simp; omega))))
  clear hbc1 hTc hBc
  go_wp2_with (fail)
  go_region
  all_goals
    go_wp2
    refine bodyPost_ret (v := .tuple #[V3 0 0 0, .int .i64 30, .int .i64 9]) (by simp [results, Tryd.results21, go_sem, *]) rfl ⟨rfl, ?_⟩
    (repeat (first | exact HXc.out | refine below_set ?_ (Nat.le_refl _) | refine Below.drew ?_))
set_option maxRecDepth 100000 in
set_option maxHeartbeats 4000000 in
theorem pd_5_ok (s : ByteArray) (w : World) (hG : GlobOk w) (hs : s.size = 8) (hsh : shp s SH 0 0 = (5, 0)) (hf : fit s ⟨#[100, 100, 100, 100, 87, 100, 100, 100]⟩ = 8) (h0 : (1 ≤ (nmv s 5 2) ∧ (nmv s 5 2) ≤ wks (nmv s 0 4))) (h1 : (1 ≤ (nmv s 7 1) ∧ (nmv s 7 1) ≤ 7)) (r1 r2 r3 r4 : Int) (hr : cal_FromWeek.f 30001 (nmv s 0 4) (nmv s 5 2) (nmv s 7 1) = some (r1, r2, r3, r4)) (h4 : r4 = 0) :
    Calls Tryd.prog 21 #[.string s] w fun e w' => e = .returned (.tuple #[V3 r1 r2 r3, .int .i64 0, .int .i64 0]) ∧ Below w.heap.size w w' := by
  have HS := Lib.hid (fun W g => shape_call s W g 5 0 hsh)
  have dg0 := dig_of hf 0 4 (by decide) (by decide)
  have HN := Lib.hid (num_call s 0 4 (by decide) (by omega) (by decide) dg0)
  have ybd := nmv_bd s 0 4 (fun j j1 j2 => dg0 j j1 j2)
  have ybd2 : 0 ≤ (nmv s 0 4) ∧ (nmv s 0 4) ≤ 9999 := by omega
  have dg1 := dig_of hf 5 7 (by decide) (by decide)
  have HN0 := Lib.hid (num_call s 5 7 (by decide) (by omega) (by decide) dg1)
  have bd0 := nmv_bd s 5 2 (fun j j1 j2 => dg1 j j1 j2)
  have dg2 := dig_of hf 7 8 (by decide) (by decide)
  have HN1 := Lib.hid (num_call s 7 8 (by decide) (by omega) (by decide) dg2)
  have bd1 := nmv_bd s 7 1 (fun j j1 j2 => dg2 j j1 j2)
  have hl : 8 ≤ s.size := by omega
  have hu : s.size ≤ 8 := by omega
  have HG := Lib.hid hG
  have HB0 := Lib.hid (decide_eq_true h0)
  have HC0 : Hid (∀ W, Calls Tryd.prog 80 #[V3 (nmv s 0 4) (nmv s 5 2) 0] W fun e w' => e = .returned (.bool true) ∧ Below W.heap.size W w') := by
    intro W; have := (fun W => week_any (nmv s 0 4) (nmv s 5 2) 0 W ⟨by omega, ybd2.2⟩) W; rw [HB0.out] at this; exact this
  have HB1 := Lib.hid (decide_eq_true h1)
  have HC1 : Hid (∀ W, Calls Tryd.prog 82 #[V3 (nmv s 0 4) (nmv s 5 2) (nmv s 7 1)] W fun e w' => e = .returned (.bool true) ∧ Below W.heap.size W w') := by
    intro W; have := (fun W => ofWeek_any (nmv s 0 4) (nmv s 5 2) (nmv s 7 1) W) W; rw [HB1.out] at this; exact this
  have HM : Hid (∀ W, GlobOk W → Calls Tryd.prog 85 #[V3 (nmv s 0 4) (nmv s 5 2) (nmv s 7 1)] W fun e w' => e = .returned (.tuple #[V3 r1 r2 r3, .int .i64 r4]) ∧ Below W.heap.size W w') := fun W hW => byWeek_any _ _ _ r1 r2 r3 r4 W hW hr
  clear h0 h1 ybd ybd2 dg0 dg1 bd0 dg2 bd1 hs hsh hf hG
  clear hr
  subst h4
  generalize (nmv s 0 4) = y at *
  generalize (nmv s 5 2) = a at *
  generalize (nmv s 7 1) = b at *
  go_enter Tryd.func21, Tryd.ntmps21
  go_wp2_with (first | (go_at_call 42; (refine (HS.out ((w.alloc Z3).alloc (.cells (SH.map Value.string).toArray 9)) (w.heap.size + 1) (blk_new1 w _ _)).mono ?_); rintro e w1 ⟨rfl, hb1⟩; have HX1 := Lib.hid hb1; have hz1 : w.heap.size + 2 ≤ w1.heap.size := (by have := hb1.size; simp at this; omega); have hT1 : w1.heap[w.heap.size]? = some Z3 := (hb1.block _ (by first | omega | (simp; done) | (simp; omega))).trans (blk_alloc (blk_new w _) _); have HT1 := Lib.hid hT1; clear hb1 hT1) | (go_at_call 43; (with_reducible refine (HN.out _).mono ?_); rintro e w2 ⟨rfl, hb2⟩; have hz2 : w1.heap.size ≤ w2.heap.size := hb2.size; have HT2 := Lib.hid ((hb2.block _ (by omega)).trans HT1.out); have HX2 := Lib.hid (((((Below.refl _ w).alloc (Nat.le_refl _) _).alloc (by first | omega | (simp; done) | (simp; omega)) _).trans (HX1.out.mono (by first | omega | (simp; done) | (simp; omega)))).trans (hb2.mono (by omega))); clear hb2) | (go_at_call 44; (refine (parts_5 _).mono ?_); rintro e w3 ⟨rfl, rfl⟩))
  refine wp_loop_rounds 3 ?_
  rw [rounds_succ]
  go_wp2_with (first | (go_at_call 43; (with_reducible refine (HN0.out _).mono ?_); rintro e wn0 ⟨rfl, hbn0⟩; have hzn0 : w2.heap.size + 2 < wn0.heap.size := (by have := hbn0.size; simp at this; omega); have hTn0 : wn0.heap[w.heap.size]? = some Z3 := (hbn0.block _ (by first | omega | (simp; done) | (simp; omega))).trans (blk_alloc (blk_alloc (blk_alloc (HT2.out) _) _) _); have hVn0 : wn0.heap[w2.heap.size]? = some (.cells #[.int .i64 y, .int .i64 0, .int .i64 0] 73 (0, 0)) := (hbn0.block _ (by first | omega | (simp; done) | (simp; omega))).trans (blk_alloc (blk_alloc (blk_new w2 _) _) _); have hPn0 : wn0.heap[w2.heap.size + 1]? = some PC5 := (hbn0.block _ (by first | omega | (simp; done) | (simp; omega))).trans (blk_alloc (blk_new1 w2 _ _) _); have hBn0 : wn0.heap[w2.heap.size + 2]? = some (.cells #[.int .i64 5, .int .i64 7, .func (.func 80) #[] #[]] 80 (0, 0)) := (hbn0.block _ (by first | omega | (simp; done) | (simp; omega))).trans (blk_new2 w2 _ _ _); have v0c0 : wn0.cell? ⟨w2.heap.size, 0, none⟩ = some (.int .i64 y) := (blk_cell hVn0 0).trans rfl; have v0c1 : wn0.cell? ⟨w2.heap.size, 1, none⟩ = some (.int .i64 0) := (blk_cell hVn0 1).trans rfl; have v0c2 : wn0.cell? ⟨w2.heap.size, 2, none⟩ = some (.int .i64 0) := (blk_cell hVn0 2).trans rfl; have v0f0 := blk_frozen hVn0 0; have v0f1 := blk_frozen hVn0 1; have v0f2 := blk_frozen hVn0 2; have x0c0 : wn0.cell? ⟨w2.heap.size + 2, 0, none⟩ = some (.int .i64 5) := (blk_cell hBn0 0).trans rfl; have x0c1 : wn0.cell? ⟨w2.heap.size + 2, 1, none⟩ = some (.int .i64 7) := (blk_cell hBn0 1).trans rfl; have x0c2 : wn0.cell? ⟨w2.heap.size + 2, 2, none⟩ = some (.func (.func 80) #[] #[]) := (blk_cell hBn0 2).trans rfl; have HX0n := Lib.hid ((((HX2.out.alloc HX2.out.size _).alloc (by first | omega | (simp; done) | (simp; omega)) _).alloc (by first | omega | (simp; done) | (simp; omega)) _).trans (hbn0.mono (by first | omega | (simp; done) | (simp; omega)))); have HT0n := Lib.hid hTn0; have HV0n := Lib.hid hVn0; have HP0n := Lib.hid hPn0; have HB0n := Lib.hid hBn0; clear hbn0 hTn0 hVn0 hPn0 hBn0))
  (with_reducible refine (HC0.out _).mono ?_)
  rintro e wc0 ⟨rfl, hbc0⟩
  have hzc0 : wn0.heap.size ≤ wc0.heap.size := (by have := hbc0.size; simpa using this)
  have HT0c := Lib.hid ((hbc0.block _ (by first | omega | (simp; done) | (simp; omega))).trans (blk_far HT0n.out (by first | omega | (simp; done) | (simp; omega)) _))
  have hVc0 : wc0.heap[w2.heap.size]? = some (.cells #[.int .i64 y, .int .i64 a, .int .i64 0] 73 (0, 0)) := ((hbc0.block _ (by first | omega | (simp; done) | (simp; omega))).trans (blk_set HV0n.out _ _)).trans rfl
  have HV0c := Lib.hid hVc0
  have HP0c : Hid (wc0.heap[w2.heap.size + 1]? = some PC5) := (hbc0.block _ (by first | omega | (simp; done) | (simp; omega))).trans (blk_far HP0n.out (by first | omega | (simp; done) | (simp; omega)) _)
  have HX0c := Lib.hid ((below_set HX0n.out (by omega) (j := 1) (v := .int .i64 a)).trans (hbc0.mono (by first | omega | (simp; done) | (simp; omega))))
  clear hbc0
  have hPc0 := HP0c.out
  have p0c0 : wc0.cell? ⟨w2.heap.size + 1, 0, none⟩ = some (.int .i64 5) := (blk_cell hPc0 0).trans rfl
  have p0c1 : wc0.cell? ⟨w2.heap.size + 1, 1, none⟩ = some (.int .i64 7) := (blk_cell hPc0 1).trans rfl
  have p0c2 : wc0.cell? ⟨w2.heap.size + 1, 2, none⟩ = some (.func (.func 80) #[] #[]) := (blk_cell hPc0 2).trans rfl
  have p0c3 : wc0.cell? ⟨w2.heap.size + 1, 3, none⟩ = some (.int .i64 7) := (blk_cell hPc0 3).trans rfl
  have p0c4 : wc0.cell? ⟨w2.heap.size + 1, 4, none⟩ = some (.int .i64 8) := (blk_cell hPc0 4).trans rfl
  have p0c5 : wc0.cell? ⟨w2.heap.size + 1, 5, none⟩ = some (.func (.func 82) #[] #[]) := (blk_cell hPc0 5).trans rfl
  clear hPc0 hVc0
  go_wp2_with (fail)
  rw [rounds_succ]
  go_wp2_with (first | (go_at_call 43; (with_reducible refine (HN1.out _).mono ?_); rintro e wn1 ⟨rfl, hbn1⟩; have hzn1 : wc0.heap.size < wn1.heap.size := (by have := hbn1.size; simp at this; omega); have hTn1 : wn1.heap[w.heap.size]? = some Z3 := (hbn1.block _ (by first | omega | (simp; done) | (simp; omega))).trans (blk_alloc (HT0c.out) _); have hVn1 : wn1.heap[w2.heap.size]? = some (.cells #[.int .i64 y, .int .i64 a, .int .i64 0] 73 (0, 0)) := (hbn1.block _ (by first | omega | (simp; done) | (simp; omega))).trans (blk_alloc HV0c.out _); have hPn1 : wn1.heap[w2.heap.size + 1]? = some PC5 := (hbn1.block _ (by first | omega | (simp; done) | (simp; omega))).trans (blk_alloc HP0c.out _); have hBn1 : wn1.heap[wc0.heap.size]? = some (.cells #[.int .i64 7, .int .i64 8, .func (.func 82) #[] #[]] 80 (0, 0)) := (hbn1.block _ (by first | omega | (simp; done) | (simp; omega))).trans (blk_new wc0 _); have v1c0 : wn1.cell? ⟨w2.heap.size, 0, none⟩ = some (.int .i64 y) := (blk_cell hVn1 0).trans rfl; have v1c1 : wn1.cell? ⟨w2.heap.size, 1, none⟩ = some (.int .i64 a) := (blk_cell hVn1 1).trans rfl; have v1c2 : wn1.cell? ⟨w2.heap.size, 2, none⟩ = some (.int .i64 0) := (blk_cell hVn1 2).trans rfl; have v1f0 := blk_frozen hVn1 0; have v1f1 := blk_frozen hVn1 1; have v1f2 := blk_frozen hVn1 2; have x1c0 : wn1.cell? ⟨wc0.heap.size, 0, none⟩ = some (.int .i64 7) := (blk_cell hBn1 0).trans rfl; have x1c1 : wn1.cell? ⟨wc0.heap.size, 1, none⟩ = some (.int .i64 8) := (blk_cell hBn1 1).trans rfl; have x1c2 : wn1.cell? ⟨wc0.heap.size, 2, none⟩ = some (.func (.func 82) #[] #[]) := (blk_cell hBn1 2).trans rfl; have HX1n := Lib.hid ((HX0c.out.alloc HX0c.out.size _).trans (hbn1.mono (by first | omega | (simp; done) | (simp; omega)))); have HT1n := Lib.hid hTn1; have HV1n := Lib.hid hVn1; have HP1n := Lib.hid hPn1; have HB1n := Lib.hid hBn1; clear hbn1 hTn1 hVn1 hPn1 hBn1))
  (with_reducible refine (HC1.out _).mono ?_)
  rintro e wc1 ⟨rfl, hbc1⟩
  have hzc1 : wn1.heap.size ≤ wc1.heap.size := (by have := hbc1.size; simpa using this)
  have HT1c := Lib.hid ((hbc1.block _ (by first | omega | (simp; done) | (simp; omega))).trans (blk_far HT1n.out (by first | omega | (simp; done) | (simp; omega)) _))
  have hVc1 : wc1.heap[w2.heap.size]? = some (.cells #[.int .i64 y, .int .i64 a, .int .i64 b] 73 (0, 0)) := ((hbc1.block _ (by first | omega | (simp; done) | (simp; omega))).trans (blk_set HV1n.out _ _)).trans rfl
  have HV1c := Lib.hid hVc1
  have HP1c : Hid (wc1.heap[w2.heap.size + 1]? = some PC5) := (hbc1.block _ (by first | omega | (simp; done) | (simp; omega))).trans (blk_far HP1n.out (by first | omega | (simp; done) | (simp; omega)) _)
  have HX1c := Lib.hid ((below_set HX1n.out (by omega) (j := 2) (v := .int .i64 b)).trans (hbc1.mono (by first | omega | (simp; done) | (simp; omega))))
  clear hbc1
  have w1c0 : wc1.cell? ⟨w2.heap.size, 0, none⟩ = some (.int .i64 y) := (blk_cell hVc1 0).trans rfl
  have w1c1 : wc1.cell? ⟨w2.heap.size, 1, none⟩ = some (.int .i64 a) := (blk_cell hVc1 1).trans rfl
  have w1c2 : wc1.cell? ⟨w2.heap.size, 2, none⟩ = some (.int .i64 b) := (blk_cell hVc1 2).trans rfl
  clear hVc1
  go_wp2_with (fail)
  rw [rounds_succ]
  go_wp2_with (fail)
  (with_reducible refine (HM.out _ (GlobOk.below HG.out ?gm)).mono ?_)
  case gm => exact HX1c.out
  rintro e wm ⟨rfl, hbm⟩
  have hzm : wc1.heap.size ≤ wm.heap.size := hbm.size
  have hlt : w.heap.size < wm.heap.size := by omega
  have hTm : wm.heap[w.heap.size]? = some Z3 := (hbm.block _ (by omega)).trans HT1c.out
  have ttc0 : wm.cell? ⟨w.heap.size, 0, none⟩ = some (.int .i64 0) := (blk_cell hTm 0).trans rfl
  have ttc1 : wm.cell? ⟨w.heap.size, 1, none⟩ = some (.int .i64 0) := (blk_cell hTm 1).trans rfl
  have ttc2 : wm.cell? ⟨w.heap.size, 2, none⟩ = some (.int .i64 0) := (blk_cell hTm 2).trans rfl
  have ttf0 := blk_frozen hTm 0
  have ttf1 := blk_frozen hTm 1
  have ttf2 := blk_frozen hTm 2
  have HXm := Lib.hid (HX1c.out.trans (hbm.mono (by omega)))
  clear hbm hTm
  go_wp2
  refine bodyPost_ret (v := .tuple #[V3 r1 r2 r3, .int .i64 0, .int .i64 0]) (by simp [results, Tryd.results21, go_sem, *]) rfl ⟨rfl, ?_⟩
  (repeat (first | exact HXm.out | refine below_set ?_ (Nat.le_refl _) | refine below_alloc ?_ _))
set_option maxRecDepth 100000 in
set_option maxHeartbeats 4000000 in
theorem pd_5_e (s : ByteArray) (w : World) (hG : GlobOk w) (hs : s.size = 8) (hsh : shp s SH 0 0 = (5, 0)) (hf : fit s ⟨#[100, 100, 100, 100, 87, 100, 100, 100]⟩ = 8) (h0 : (1 ≤ (nmv s 5 2) ∧ (nmv s 5 2) ≤ wks (nmv s 0 4))) (h1 : (1 ≤ (nmv s 7 1) ∧ (nmv s 7 1) ≤ 7)) (r1 r2 r3 r4 : Int) (hr : cal_FromWeek.f 30001 (nmv s 0 4) (nmv s 5 2) (nmv s 7 1) = some (r1, r2, r3, r4)) (h4 : r4 ≠ 0) :
    Calls Tryd.prog 21 #[.string s] w fun e w' => e = .returned (.tuple #[V3 0 0 0, .int .i64 r4, .int .i64 0]) ∧ Below w.heap.size w w' := by
  have HS := Lib.hid (fun W g => shape_call s W g 5 0 hsh)
  have dg0 := dig_of hf 0 4 (by decide) (by decide)
  have HN := Lib.hid (num_call s 0 4 (by decide) (by omega) (by decide) dg0)
  have ybd := nmv_bd s 0 4 (fun j j1 j2 => dg0 j j1 j2)
  have ybd2 : 0 ≤ (nmv s 0 4) ∧ (nmv s 0 4) ≤ 9999 := by omega
  have dg1 := dig_of hf 5 7 (by decide) (by decide)
  have HN0 := Lib.hid (num_call s 5 7 (by decide) (by omega) (by decide) dg1)
  have bd0 := nmv_bd s 5 2 (fun j j1 j2 => dg1 j j1 j2)
  have dg2 := dig_of hf 7 8 (by decide) (by decide)
  have HN1 := Lib.hid (num_call s 7 8 (by decide) (by omega) (by decide) dg2)
  have bd1 := nmv_bd s 7 1 (fun j j1 j2 => dg2 j j1 j2)
  have hl : 8 ≤ s.size := by omega
  have hu : s.size ≤ 8 := by omega
  have HG := Lib.hid hG
  have HB0 := Lib.hid (decide_eq_true h0)
  have HC0 : Hid (∀ W, Calls Tryd.prog 80 #[V3 (nmv s 0 4) (nmv s 5 2) 0] W fun e w' => e = .returned (.bool true) ∧ Below W.heap.size W w') := by
    intro W; have := (fun W => week_any (nmv s 0 4) (nmv s 5 2) 0 W ⟨by omega, ybd2.2⟩) W; rw [HB0.out] at this; exact this
  have HB1 := Lib.hid (decide_eq_true h1)
  have HC1 : Hid (∀ W, Calls Tryd.prog 82 #[V3 (nmv s 0 4) (nmv s 5 2) (nmv s 7 1)] W fun e w' => e = .returned (.bool true) ∧ Below W.heap.size W w') := by
    intro W; have := (fun W => ofWeek_any (nmv s 0 4) (nmv s 5 2) (nmv s 7 1) W) W; rw [HB1.out] at this; exact this
  have HM : Hid (∀ W, GlobOk W → Calls Tryd.prog 85 #[V3 (nmv s 0 4) (nmv s 5 2) (nmv s 7 1)] W fun e w' => e = .returned (.tuple #[V3 r1 r2 r3, .int .i64 r4]) ∧ Below W.heap.size W w') := fun W hW => byWeek_any _ _ _ r1 r2 r3 r4 W hW hr
  clear h0 h1 ybd ybd2 dg0 dg1 bd0 dg2 bd1 hs hsh hf hG
  clear hr
  have h4b : (r4 != 0) = true := bne_iff_ne.2 h4
  clear h4
  generalize (nmv s 0 4) = y at *
  generalize (nmv s 5 2) = a at *
  generalize (nmv s 7 1) = b at *
  go_enter Tryd.func21, Tryd.ntmps21
  go_wp2_with (first | (go_at_call 42; (refine (HS.out ((w.alloc Z3).alloc (.cells (SH.map Value.string).toArray 9)) (w.heap.size + 1) (blk_new1 w _ _)).mono ?_); rintro e w1 ⟨rfl, hb1⟩; have HX1 := Lib.hid hb1; have hz1 : w.heap.size + 2 ≤ w1.heap.size := (by have := hb1.size; simp at this; omega); have hT1 : w1.heap[w.heap.size]? = some Z3 := (hb1.block _ (by first | omega | (simp; done) | (simp; omega))).trans (blk_alloc (blk_new w _) _); have HT1 := Lib.hid hT1; clear hb1 hT1) | (go_at_call 43; (with_reducible refine (HN.out _).mono ?_); rintro e w2 ⟨rfl, hb2⟩; have hz2 : w1.heap.size ≤ w2.heap.size := hb2.size; have HT2 := Lib.hid ((hb2.block _ (by omega)).trans HT1.out); have HX2 := Lib.hid (((((Below.refl _ w).alloc (Nat.le_refl _) _).alloc (by first | omega | (simp; done) | (simp; omega)) _).trans (HX1.out.mono (by first | omega | (simp; done) | (simp; omega)))).trans (hb2.mono (by omega))); clear hb2) | (go_at_call 44; (refine (parts_5 _).mono ?_); rintro e w3 ⟨rfl, rfl⟩))
  refine wp_loop_rounds 3 ?_
  rw [rounds_succ]
  go_wp2_with (first | (go_at_call 43; (with_reducible refine (HN0.out _).mono ?_); rintro e wn0 ⟨rfl, hbn0⟩; have hzn0 : w2.heap.size + 2 < wn0.heap.size := (by have := hbn0.size; simp at this; omega); have hTn0 : wn0.heap[w.heap.size]? = some Z3 := (hbn0.block _ (by first | omega | (simp; done) | (simp; omega))).trans (blk_alloc (blk_alloc (blk_alloc (HT2.out) _) _) _); have hVn0 : wn0.heap[w2.heap.size]? = some (.cells #[.int .i64 y, .int .i64 0, .int .i64 0] 73 (0, 0)) := (hbn0.block _ (by first | omega | (simp; done) | (simp; omega))).trans (blk_alloc (blk_alloc (blk_new w2 _) _) _); have hPn0 : wn0.heap[w2.heap.size + 1]? = some PC5 := (hbn0.block _ (by first | omega | (simp; done) | (simp; omega))).trans (blk_alloc (blk_new1 w2 _ _) _); have hBn0 : wn0.heap[w2.heap.size + 2]? = some (.cells #[.int .i64 5, .int .i64 7, .func (.func 80) #[] #[]] 80 (0, 0)) := (hbn0.block _ (by first | omega | (simp; done) | (simp; omega))).trans (blk_new2 w2 _ _ _); have v0c0 : wn0.cell? ⟨w2.heap.size, 0, none⟩ = some (.int .i64 y) := (blk_cell hVn0 0).trans rfl; have v0c1 : wn0.cell? ⟨w2.heap.size, 1, none⟩ = some (.int .i64 0) := (blk_cell hVn0 1).trans rfl; have v0c2 : wn0.cell? ⟨w2.heap.size, 2, none⟩ = some (.int .i64 0) := (blk_cell hVn0 2).trans rfl; have v0f0 := blk_frozen hVn0 0; have v0f1 := blk_frozen hVn0 1; have v0f2 := blk_frozen hVn0 2; have x0c0 : wn0.cell? ⟨w2.heap.size + 2, 0, none⟩ = some (.int .i64 5) := (blk_cell hBn0 0).trans rfl; have x0c1 : wn0.cell? ⟨w2.heap.size + 2, 1, none⟩ = some (.int .i64 7) := (blk_cell hBn0 1).trans rfl; have x0c2 : wn0.cell? ⟨w2.heap.size + 2, 2, none⟩ = some (.func (.func 80) #[] #[]) := (blk_cell hBn0 2).trans rfl; have HX0n := Lib.hid ((((HX2.out.alloc HX2.out.size _).alloc (by first | omega | (simp; done) | (simp; omega)) _).alloc (by first | omega | (simp; done) | (simp; omega)) _).trans (hbn0.mono (by first | omega | (simp; done) | (simp; omega)))); have HT0n := Lib.hid hTn0; have HV0n := Lib.hid hVn0; have HP0n := Lib.hid hPn0; have HB0n := Lib.hid hBn0; clear hbn0 hTn0 hVn0 hPn0 hBn0))
  (with_reducible refine (HC0.out _).mono ?_)
  rintro e wc0 ⟨rfl, hbc0⟩
  have hzc0 : wn0.heap.size ≤ wc0.heap.size := (by have := hbc0.size; simpa using this)
  have HT0c := Lib.hid ((hbc0.block _ (by first | omega | (simp; done) | (simp; omega))).trans (blk_far HT0n.out (by first | omega | (simp; done) | (simp; omega)) _))
  have hVc0 : wc0.heap[w2.heap.size]? = some (.cells #[.int .i64 y, .int .i64 a, .int .i64 0] 73 (0, 0)) := ((hbc0.block _ (by first | omega | (simp; done) | (simp; omega))).trans (blk_set HV0n.out _ _)).trans rfl
  have HV0c := Lib.hid hVc0
  have HP0c : Hid (wc0.heap[w2.heap.size + 1]? = some PC5) := (hbc0.block _ (by first | omega | (simp; done) | (simp; omega))).trans (blk_far HP0n.out (by first | omega | (simp; done) | (simp; omega)) _)
  have HX0c := Lib.hid ((below_set HX0n.out (by omega) (j := 1) (v := .int .i64 a)).trans (hbc0.mono (by first | omega | (simp; done) | (simp; omega))))
  clear hbc0
  have hPc0 := HP0c.out
  have p0c0 : wc0.cell? ⟨w2.heap.size + 1, 0, none⟩ = some (.int .i64 5) := (blk_cell hPc0 0).trans rfl
  have p0c1 : wc0.cell? ⟨w2.heap.size + 1, 1, none⟩ = some (.int .i64 7) := (blk_cell hPc0 1).trans rfl
  have p0c2 : wc0.cell? ⟨w2.heap.size + 1, 2, none⟩ = some (.func (.func 80) #[] #[]) := (blk_cell hPc0 2).trans rfl
  have p0c3 : wc0.cell? ⟨w2.heap.size + 1, 3, none⟩ = some (.int .i64 7) := (blk_cell hPc0 3).trans rfl
  have p0c4 : wc0.cell? ⟨w2.heap.size + 1, 4, none⟩ = some (.int .i64 8) := (blk_cell hPc0 4).trans rfl
  have p0c5 : wc0.cell? ⟨w2.heap.size + 1, 5, none⟩ = some (.func (.func 82) #[] #[]) := (blk_cell hPc0 5).trans rfl
  clear hPc0 hVc0
  go_wp2_with (fail)
  rw [rounds_succ]
  go_wp2_with (first | (go_at_call 43; (with_reducible refine (HN1.out _).mono ?_); rintro e wn1 ⟨rfl, hbn1⟩; have hzn1 : wc0.heap.size < wn1.heap.size := (by have := hbn1.size; simp at this; omega); have hTn1 : wn1.heap[w.heap.size]? = some Z3 := (hbn1.block _ (by first | omega | (simp; done) | (simp; omega))).trans (blk_alloc (HT0c.out) _); have hVn1 : wn1.heap[w2.heap.size]? = some (.cells #[.int .i64 y, .int .i64 a, .int .i64 0] 73 (0, 0)) := (hbn1.block _ (by first | omega | (simp; done) | (simp; omega))).trans (blk_alloc HV0c.out _); have hPn1 : wn1.heap[w2.heap.size + 1]? = some PC5 := (hbn1.block _ (by first | omega | (simp; done) | (simp; omega))).trans (blk_alloc HP0c.out _); have hBn1 : wn1.heap[wc0.heap.size]? = some (.cells #[.int .i64 7, .int .i64 8, .func (.func 82) #[] #[]] 80 (0, 0)) := (hbn1.block _ (by first | omega | (simp; done) | (simp; omega))).trans (blk_new wc0 _); have v1c0 : wn1.cell? ⟨w2.heap.size, 0, none⟩ = some (.int .i64 y) := (blk_cell hVn1 0).trans rfl; have v1c1 : wn1.cell? ⟨w2.heap.size, 1, none⟩ = some (.int .i64 a) := (blk_cell hVn1 1).trans rfl; have v1c2 : wn1.cell? ⟨w2.heap.size, 2, none⟩ = some (.int .i64 0) := (blk_cell hVn1 2).trans rfl; have v1f0 := blk_frozen hVn1 0; have v1f1 := blk_frozen hVn1 1; have v1f2 := blk_frozen hVn1 2; have x1c0 : wn1.cell? ⟨wc0.heap.size, 0, none⟩ = some (.int .i64 7) := (blk_cell hBn1 0).trans rfl; have x1c1 : wn1.cell? ⟨wc0.heap.size, 1, none⟩ = some (.int .i64 8) := (blk_cell hBn1 1).trans rfl; have x1c2 : wn1.cell? ⟨wc0.heap.size, 2, none⟩ = some (.func (.func 82) #[] #[]) := (blk_cell hBn1 2).trans rfl; have HX1n := Lib.hid ((HX0c.out.alloc HX0c.out.size _).trans (hbn1.mono (by first | omega | (simp; done) | (simp; omega)))); have HT1n := Lib.hid hTn1; have HV1n := Lib.hid hVn1; have HP1n := Lib.hid hPn1; have HB1n := Lib.hid hBn1; clear hbn1 hTn1 hVn1 hPn1 hBn1))
  (with_reducible refine (HC1.out _).mono ?_)
  rintro e wc1 ⟨rfl, hbc1⟩
  have hzc1 : wn1.heap.size ≤ wc1.heap.size := (by have := hbc1.size; simpa using this)
  have HT1c := Lib.hid ((hbc1.block _ (by first | omega | (simp; done) | (simp; omega))).trans (blk_far HT1n.out (by first | omega | (simp; done) | (simp; omega)) _))
  have hVc1 : wc1.heap[w2.heap.size]? = some (.cells #[.int .i64 y, .int .i64 a, .int .i64 b] 73 (0, 0)) := ((hbc1.block _ (by first | omega | (simp; done) | (simp; omega))).trans (blk_set HV1n.out _ _)).trans rfl
  have HV1c := Lib.hid hVc1
  have HP1c : Hid (wc1.heap[w2.heap.size + 1]? = some PC5) := (hbc1.block _ (by first | omega | (simp; done) | (simp; omega))).trans (blk_far HP1n.out (by first | omega | (simp; done) | (simp; omega)) _)
  have HX1c := Lib.hid ((below_set HX1n.out (by omega) (j := 2) (v := .int .i64 b)).trans (hbc1.mono (by first | omega | (simp; done) | (simp; omega))))
  clear hbc1
  have w1c0 : wc1.cell? ⟨w2.heap.size, 0, none⟩ = some (.int .i64 y) := (blk_cell hVc1 0).trans rfl
  have w1c1 : wc1.cell? ⟨w2.heap.size, 1, none⟩ = some (.int .i64 a) := (blk_cell hVc1 1).trans rfl
  have w1c2 : wc1.cell? ⟨w2.heap.size, 2, none⟩ = some (.int .i64 b) := (blk_cell hVc1 2).trans rfl
  clear hVc1
  go_wp2_with (fail)
  rw [rounds_succ]
  go_wp2_with (fail)
  (with_reducible refine (HM.out _ (GlobOk.below HG.out ?gm)).mono ?_)
  case gm => exact HX1c.out
  rintro e wm ⟨rfl, hbm⟩
  have hzm : wc1.heap.size ≤ wm.heap.size := hbm.size
  have hlt : w.heap.size < wm.heap.size := by omega
  have hTm : wm.heap[w.heap.size]? = some Z3 := (hbm.block _ (by omega)).trans HT1c.out
  have ttc0 : wm.cell? ⟨w.heap.size, 0, none⟩ = some (.int .i64 0) := (blk_cell hTm 0).trans rfl
  have ttc1 : wm.cell? ⟨w.heap.size, 1, none⟩ = some (.int .i64 0) := (blk_cell hTm 1).trans rfl
  have ttc2 : wm.cell? ⟨w.heap.size, 2, none⟩ = some (.int .i64 0) := (blk_cell hTm 2).trans rfl
  have ttf0 := blk_frozen hTm 0
  have ttf1 := blk_frozen hTm 1
  have ttf2 := blk_frozen hTm 2
  have HXm := Lib.hid (HX1c.out.trans (hbm.mono (by omega)))
  clear hbm hTm
  go_wp2
  refine bodyPost_ret (v := .tuple #[V3 0 0 0, .int .i64 r4, .int .i64 0]) (by simp [results, Tryd.results21, go_sem, *]) rfl ⟨rfl, ?_⟩
  (repeat (first | exact HXm.out | refine below_set ?_ (Nat.le_refl _) | refine below_alloc ?_ _))
set_option maxRecDepth 100000 in
set_option maxHeartbeats 4000000 in
theorem pd_5_0 (s : ByteArray) (w : World) (hG : GlobOk w) (hs : s.size = 8) (hsh : shp s SH 0 0 = (5, 0)) (hf : fit s ⟨#[100, 100, 100, 100, 87, 100, 100, 100]⟩ = 8) (h0 : ¬ (1 ≤ (nmv s 5 2) ∧ (nmv s 5 2) ≤ wks (nmv s 0 4))) :
    Calls Tryd.prog 21 #[.string s] w fun e w' => e = .returned (.tuple #[V3 0 0 0, .int .i64 30, .int .i64 5]) ∧ Below w.heap.size w w' := by
  have HS := Lib.hid (fun W g => shape_call s W g 5 0 hsh)
  have dg0 := dig_of hf 0 4 (by decide) (by decide)
  have HN := Lib.hid (num_call s 0 4 (by decide) (by omega) (by decide) dg0)
  have ybd := nmv_bd s 0 4 (fun j j1 j2 => dg0 j j1 j2)
  have ybd2 : 0 ≤ (nmv s 0 4) ∧ (nmv s 0 4) ≤ 9999 := by omega
  have dg1 := dig_of hf 5 7 (by decide) (by decide)
  have HN0 := Lib.hid (num_call s 5 7 (by decide) (by omega) (by decide) dg1)
  have bd0 := nmv_bd s 5 2 (fun j j1 j2 => dg1 j j1 j2)
  have dg2 := dig_of hf 7 8 (by decide) (by decide)
  have HN1 := Lib.hid (num_call s 7 8 (by decide) (by omega) (by decide) dg2)
  have bd1 := nmv_bd s 7 1 (fun j j1 j2 => dg2 j j1 j2)
  have hl : 8 ≤ s.size := by omega
  have hu : s.size ≤ 8 := by omega
  have HG := Lib.hid hG
  have HB0 := Lib.hid (decide_eq_false h0)
  have HC0 : Hid (∀ W, Calls Tryd.prog 80 #[V3 (nmv s 0 4) (nmv s 5 2) 0] W fun e w' => e = .returned (.bool false) ∧ Below W.heap.size W w') := by
    intro W; have := (fun W => week_any (nmv s 0 4) (nmv s 5 2) 0 W ⟨by omega, ybd2.2⟩) W; rw [HB0.out] at this; exact this
  clear h0 ybd ybd2 dg0 dg1 bd0 dg2 bd1 hs hsh hf hG
  generalize (nmv s 0 4) = y at *
  generalize (nmv s 5 2) = a at *
  generalize (nmv s 7 1) = b at *
  go_enter Tryd.func21, Tryd.ntmps21
  go_wp2_with (first | (go_at_call 42; (refine (HS.out ((w.alloc Z3).alloc (.cells (SH.map Value.string).toArray 9)) (w.heap.size + 1) (blk_new1 w _ _)).mono ?_); rintro e w1 ⟨rfl, hb1⟩; have HX1 := Lib.hid hb1; have hz1 : w.heap.size + 2 ≤ w1.heap.size := (by have := hb1.size; simp at this; omega); have hT1 : w1.heap[w.heap.size]? = some Z3 := (hb1.block _ (by first | omega | (simp; done) | (simp; omega))).trans (blk_alloc (blk_new w _) _); have HT1 := Lib.hid hT1; clear hb1 hT1) | (go_at_call 43; (with_reducible refine (HN.out _).mono ?_); rintro e w2 ⟨rfl, hb2⟩; have hz2 : w1.heap.size ≤ w2.heap.size := hb2.size; have HT2 := Lib.hid ((hb2.block _ (by omega)).trans HT1.out); have HX2 := Lib.hid (((((Below.refl _ w).alloc (Nat.le_refl _) _).alloc (by first | omega | (simp; done) | (simp; omega)) _).trans (HX1.out.mono (by first | omega | (simp; done) | (simp; omega)))).trans (hb2.mono (by omega))); clear hb2) | (go_at_call 44; (refine (parts_5 _).mono ?_); rintro e w3 ⟨rfl, rfl⟩))
  refine wp_loop_rounds 3 ?_
  rw [rounds_succ]
  go_wp2_with (first | (go_at_call 43; (with_reducible refine (HN0.out _).mono ?_); rintro e wn0 ⟨rfl, hbn0⟩; have hzn0 : w2.heap.size + 2 < wn0.heap.size := (by have := hbn0.size; simp at this; omega); have hTn0 : wn0.heap[w.heap.size]? = some Z3 := (hbn0.block _ (by first | omega | (simp; done) | (simp; omega))).trans (blk_alloc (blk_alloc (blk_alloc (HT2.out) _) _) _); have hVn0 : wn0.heap[w2.heap.size]? = some (.cells #[.int .i64 y, .int .i64 0, .int .i64 0] 73 (0, 0)) := (hbn0.block _ (by first | omega | (simp; done) | (simp; omega))).trans (blk_alloc (blk_alloc (blk_new w2 _) _) _); have hPn0 : wn0.heap[w2.heap.size + 1]? = some PC5 := (hbn0.block _ (by first | omega | (simp; done) | (simp; omega))).trans (blk_alloc (blk_new1 w2 _ _) _); have hBn0 : wn0.heap[w2.heap.size + 2]? = some (.cells #[.int .i64 5, .int .i64 7, .func (.func 80) #[] #[]] 80 (0, 0)) := (hbn0.block _ (by first | omega | (simp; done) | (simp; omega))).trans (blk_new2 w2 _ _ _); have v0c0 : wn0.cell? ⟨w2.heap.size, 0, none⟩ = some (.int .i64 y) := (blk_cell hVn0 0).trans rfl; have v0c1 : wn0.cell? ⟨w2.heap.size, 1, none⟩ = some (.int .i64 0) := (blk_cell hVn0 1).trans rfl; have v0c2 : wn0.cell? ⟨w2.heap.size, 2, none⟩ = some (.int .i64 0) := (blk_cell hVn0 2).trans rfl; have v0f0 := blk_frozen hVn0 0; have v0f1 := blk_frozen hVn0 1; have v0f2 := blk_frozen hVn0 2; have x0c0 : wn0.cell? ⟨w2.heap.size + 2, 0, none⟩ = some (.int .i64 5) := (blk_cell hBn0 0).trans rfl; have x0c1 : wn0.cell? ⟨w2.heap.size + 2, 1, none⟩ = some (.int .i64 7) := (blk_cell hBn0 1).trans rfl; have x0c2 : wn0.cell? ⟨w2.heap.size + 2, 2, none⟩ = some (.func (.func 80) #[] #[]) := (blk_cell hBn0 2).trans rfl; have HX0n := Lib.hid ((((HX2.out.alloc HX2.out.size _).alloc (by first | omega | (simp; done) | (simp; omega)) _).alloc (by first | omega | (simp; done) | (simp; omega)) _).trans (hbn0.mono (by first | omega | (simp; done) | (simp; omega)))); have HT0n := Lib.hid hTn0; have HV0n := Lib.hid hVn0; have HP0n := Lib.hid hPn0; have HB0n := Lib.hid hBn0; clear hbn0 hTn0 hVn0 hPn0 hBn0))
  (with_reducible refine (HC0.out _).mono ?_)
  rintro e wc0 ⟨rfl, hbc0⟩
  have hzc0 : wn0.heap.size ≤ wc0.heap.size := (by have := hbc0.size; simpa using this)
  have hTc : wc0.heap[w.heap.size]? = some Z3 := (hbc0.block _ (by first | omega | (simp; done) | (simp; omega))).trans (blk_far HT0n.out (by first | omega | (simp; done) | (simp; omega)) _)
  have hBc : wc0.heap[w2.heap.size + 2]? = some (.cells #[.int .i64 5, .int .i64 7, .func (.func 80) #[] #[]] 80 (0, 0)) := (hbc0.block _ (by first | omega | (simp; done) | (simp; omega))).trans (blk_far HB0n.out (by first | omega | (simp; done) | (simp; omega)) _)
  have ttc0 : wc0.cell? ⟨w.heap.size, 0, none⟩ = some (.int .i64 0) := (blk_cell hTc 0).trans rfl
  have ttc1 : wc0.cell? ⟨w.heap.size, 1, none⟩ = some (.int .i64 0) := (blk_cell hTc 1).trans rfl
  have ttc2 : wc0.cell? ⟨w.heap.size, 2, none⟩ = some (.int .i64 0) := (blk_cell hTc 2).trans rfl
  have ttf0 := blk_frozen hTc 0
  have ttf1 := blk_frozen hTc 1
  have ttf2 := blk_frozen hTc 2
  have bbc0 : wc0.cell? ⟨w2.heap.size + 2, 0, none⟩ = some (.int .i64 5) := (blk_cell hBc 0).trans rfl
  have bbc1 : wc0.cell? ⟨w2.heap.size + 2, 1, none⟩ = some (.int .i64 7) := (blk_cell hBc 1).trans rfl
  have bbc2 : wc0.cell? ⟨w2.heap.size + 2, 2, none⟩ = some (.func (.func 80) #[] #[]) := (blk_cell hBc 2).trans rfl
  have HXc := Lib.hid ((below_set HX0n.out (by omega) (j := 1) (v := .int .i64 a)).trans (hbc0.mono (by first | omega | (simp; done) | (simp; omega))))
  clear hbc0 hTc hBc
  go_wp2_with (fail)
  go_region
  all_goals
    go_wp2
    refine bodyPost_ret (v := .tuple #[V3 0 0 0, .int .i64 30, .int .i64 5]) (by simp [results, Tryd.results21, go_sem, *]) rfl ⟨rfl, ?_⟩
    (repeat (first | exact HXc.out | refine below_set ?_ (Nat.le_refl _) | refine Below.drew ?_))
set_option maxRecDepth 100000 in
set_option maxHeartbeats 4000000 in
theorem pd_5_1 (s : ByteArray) (w : World) (hG : GlobOk w) (hs : s.size = 8) (hsh : shp s SH 0 0 = (5, 0)) (hf : fit s ⟨#[100, 100, 100, 100, 87, 100, 100, 100]⟩ = 8) (h0 : (1 ≤ (nmv s 5 2) ∧ (nmv s 5 2) ≤ wks (nmv s 0 4))) (h1 : ¬ (1 ≤ (nmv s 7 1) ∧ (nmv s 7 1) ≤ 7)) :
    Calls Tryd.prog 21 #[.string s] w fun e w' => e = .returned (.tuple #[V3 0 0 0, .int .i64 30, .int .i64 7]) ∧ Below w.heap.size w w' := by
  have HS := Lib.hid (fun W g => shape_call s W g 5 0 hsh)
  have dg0 := dig_of hf 0 4 (by decide) (by decide)
  have HN := Lib.hid (num_call s 0 4 (by decide) (by omega) (by decide) dg0)
  have ybd := nmv_bd s 0 4 (fun j j1 j2 => dg0 j j1 j2)
  have ybd2 : 0 ≤ (nmv s 0 4) ∧ (nmv s 0 4) ≤ 9999 := by omega
  have dg1 := dig_of hf 5 7 (by decide) (by decide)
  have HN0 := Lib.hid (num_call s 5 7 (by decide) (by omega) (by decide) dg1)
  have bd0 := nmv_bd s 5 2 (fun j j1 j2 => dg1 j j1 j2)
  have dg2 := dig_of hf 7 8 (by decide) (by decide)
  have HN1 := Lib.hid (num_call s 7 8 (by decide) (by omega) (by decide) dg2)
  have bd1 := nmv_bd s 7 1 (fun j j1 j2 => dg2 j j1 j2)
  have hl : 8 ≤ s.size := by omega
  have hu : s.size ≤ 8 := by omega
  have HG := Lib.hid hG
  have HB0 := Lib.hid (decide_eq_true h0)
  have HC0 : Hid (∀ W, Calls Tryd.prog 80 #[V3 (nmv s 0 4) (nmv s 5 2) 0] W fun e w' => e = .returned (.bool true) ∧ Below W.heap.size W w') := by
    intro W; have := (fun W => week_any (nmv s 0 4) (nmv s 5 2) 0 W ⟨by omega, ybd2.2⟩) W; rw [HB0.out] at this; exact this
  have HB1 := Lib.hid (decide_eq_false h1)
  have HC1 : Hid (∀ W, Calls Tryd.prog 82 #[V3 (nmv s 0 4) (nmv s 5 2) (nmv s 7 1)] W fun e w' => e = .returned (.bool false) ∧ Below W.heap.size W w') := by
    intro W; have := (fun W => ofWeek_any (nmv s 0 4) (nmv s 5 2) (nmv s 7 1) W) W; rw [HB1.out] at this; exact this
  clear h0 h1 ybd ybd2 dg0 dg1 bd0 dg2 bd1 hs hsh hf hG
  generalize (nmv s 0 4) = y at *
  generalize (nmv s 5 2) = a at *
  generalize (nmv s 7 1) = b at *
  go_enter Tryd.func21, Tryd.ntmps21
  go_wp2_with (first | (go_at_call 42; (refine (HS.out ((w.alloc Z3).alloc (.cells (SH.map Value.string).toArray 9)) (w.heap.size + 1) (blk_new1 w _ _)).mono ?_); rintro e w1 ⟨rfl, hb1⟩; have HX1 := Lib.hid hb1; have hz1 : w.heap.size + 2 ≤ w1.heap.size := (by have := hb1.size; simp at this; omega); have hT1 : w1.heap[w.heap.size]? = some Z3 := (hb1.block _ (by first | omega | (simp; done) | (simp; omega))).trans (blk_alloc (blk_new w _) _); have HT1 := Lib.hid hT1; clear hb1 hT1) | (go_at_call 43; (with_reducible refine (HN.out _).mono ?_); rintro e w2 ⟨rfl, hb2⟩; have hz2 : w1.heap.size ≤ w2.heap.size := hb2.size; have HT2 := Lib.hid ((hb2.block _ (by omega)).trans HT1.out); have HX2 := Lib.hid (((((Below.refl _ w).alloc (Nat.le_refl _) _).alloc (by first | omega | (simp; done) | (simp; omega)) _).trans (HX1.out.mono (by first | omega | (simp; done) | (simp; omega)))).trans (hb2.mono (by omega))); clear hb2) | (go_at_call 44; (refine (parts_5 _).mono ?_); rintro e w3 ⟨rfl, rfl⟩))
  refine wp_loop_rounds 3 ?_
  rw [rounds_succ]
  go_wp2_with (first | (go_at_call 43; (with_reducible refine (HN0.out _).mono ?_); rintro e wn0 ⟨rfl, hbn0⟩; have hzn0 : w2.heap.size + 2 < wn0.heap.size := (by have := hbn0.size; simp at this; omega); have hTn0 : wn0.heap[w.heap.size]? = some Z3 := (hbn0.block _ (by first | omega | (simp; done) | (simp; omega))).trans (blk_alloc (blk_alloc (blk_alloc (HT2.out) _) _) _); have hVn0 : wn0.heap[w2.heap.size]? = some (.cells #[.int .i64 y, .int .i64 0, .int .i64 0] 73 (0, 0)) := (hbn0.block _ (by first | omega | (simp; done) | (simp; omega))).trans (blk_alloc (blk_alloc (blk_new w2 _) _) _); have hPn0 : wn0.heap[w2.heap.size + 1]? = some PC5 := (hbn0.block _ (by first | omega | (simp; done) | (simp; omega))).trans (blk_alloc (blk_new1 w2 _ _) _); have hBn0 : wn0.heap[w2.heap.size + 2]? = some (.cells #[.int .i64 5, .int .i64 7, .func (.func 80) #[] #[]] 80 (0, 0)) := (hbn0.block _ (by first | omega | (simp; done) | (simp; omega))).trans (blk_new2 w2 _ _ _); have v0c0 : wn0.cell? ⟨w2.heap.size, 0, none⟩ = some (.int .i64 y) := (blk_cell hVn0 0).trans rfl; have v0c1 : wn0.cell? ⟨w2.heap.size, 1, none⟩ = some (.int .i64 0) := (blk_cell hVn0 1).trans rfl; have v0c2 : wn0.cell? ⟨w2.heap.size, 2, none⟩ = some (.int .i64 0) := (blk_cell hVn0 2).trans rfl; have v0f0 := blk_frozen hVn0 0; have v0f1 := blk_frozen hVn0 1; have v0f2 := blk_frozen hVn0 2; have x0c0 : wn0.cell? ⟨w2.heap.size + 2, 0, none⟩ = some (.int .i64 5) := (blk_cell hBn0 0).trans rfl; have x0c1 : wn0.cell? ⟨w2.heap.size + 2, 1, none⟩ = some (.int .i64 7) := (blk_cell hBn0 1).trans rfl; have x0c2 : wn0.cell? ⟨w2.heap.size + 2, 2, none⟩ = some (.func (.func 80) #[] #[]) := (blk_cell hBn0 2).trans rfl; have HX0n := Lib.hid ((((HX2.out.alloc HX2.out.size _).alloc (by first | omega | (simp; done) | (simp; omega)) _).alloc (by first | omega | (simp; done) | (simp; omega)) _).trans (hbn0.mono (by first | omega | (simp; done) | (simp; omega)))); have HT0n := Lib.hid hTn0; have HV0n := Lib.hid hVn0; have HP0n := Lib.hid hPn0; have HB0n := Lib.hid hBn0; clear hbn0 hTn0 hVn0 hPn0 hBn0))
  (with_reducible refine (HC0.out _).mono ?_)
  rintro e wc0 ⟨rfl, hbc0⟩
  have hzc0 : wn0.heap.size ≤ wc0.heap.size := (by have := hbc0.size; simpa using this)
  have HT0c := Lib.hid ((hbc0.block _ (by first | omega | (simp; done) | (simp; omega))).trans (blk_far HT0n.out (by first | omega | (simp; done) | (simp; omega)) _))
  have hVc0 : wc0.heap[w2.heap.size]? = some (.cells #[.int .i64 y, .int .i64 a, .int .i64 0] 73 (0, 0)) := ((hbc0.block _ (by first | omega | (simp; done) | (simp; omega))).trans (blk_set HV0n.out _ _)).trans rfl
  have HV0c := Lib.hid hVc0
  have HP0c : Hid (wc0.heap[w2.heap.size + 1]? = some PC5) := (hbc0.block _ (by first | omega | (simp; done) | (simp; omega))).trans (blk_far HP0n.out (by first | omega | (simp; done) | (simp; omega)) _)
  have HX0c := Lib.hid ((below_set HX0n.out (by omega) (j := 1) (v := .int .i64 a)).trans (hbc0.mono (by first | omega | (simp; done) | (simp; omega))))
  clear hbc0
  have hPc0 := HP0c.out
  have p0c0 : wc0.cell? ⟨w2.heap.size + 1, 0, none⟩ = some (.int .i64 5) := (blk_cell hPc0 0).trans rfl
  have p0c1 : wc0.cell? ⟨w2.heap.size + 1, 1, none⟩ = some (.int .i64 7) := (blk_cell hPc0 1).trans rfl
  have p0c2 : wc0.cell? ⟨w2.heap.size + 1, 2, none⟩ = some (.func (.func 80) #[] #[]) := (blk_cell hPc0 2).trans rfl
  have p0c3 : wc0.cell? ⟨w2.heap.size + 1, 3, none⟩ = some (.int .i64 7) := (blk_cell hPc0 3).trans rfl
  have p0c4 : wc0.cell? ⟨w2.heap.size + 1, 4, none⟩ = some (.int .i64 8) := (blk_cell hPc0 4).trans rfl
  have p0c5 : wc0.cell? ⟨w2.heap.size + 1, 5, none⟩ = some (.func (.func 82) #[] #[]) := (blk_cell hPc0 5).trans rfl
  clear hPc0 hVc0
  go_wp2_with (fail)
  rw [rounds_succ]
  go_wp2_with (first | (go_at_call 43; (with_reducible refine (HN1.out _).mono ?_); rintro e wn1 ⟨rfl, hbn1⟩; have hzn1 : wc0.heap.size < wn1.heap.size := (by have := hbn1.size; simp at this; omega); have hTn1 : wn1.heap[w.heap.size]? = some Z3 := (hbn1.block _ (by first | omega | (simp; done) | (simp; omega))).trans (blk_alloc (HT0c.out) _); have hVn1 : wn1.heap[w2.heap.size]? = some (.cells #[.int .i64 y, .int .i64 a, .int .i64 0] 73 (0, 0)) := (hbn1.block _ (by first | omega | (simp; done) | (simp; omega))).trans (blk_alloc HV0c.out _); have hPn1 : wn1.heap[w2.heap.size + 1]? = some PC5 := (hbn1.block _ (by first | omega | (simp; done) | (simp; omega))).trans (blk_alloc HP0c.out _); have hBn1 : wn1.heap[wc0.heap.size]? = some (.cells #[.int .i64 7, .int .i64 8, .func (.func 82) #[] #[]] 80 (0, 0)) := (hbn1.block _ (by first | omega | (simp; done) | (simp; omega))).trans (blk_new wc0 _); have v1c0 : wn1.cell? ⟨w2.heap.size, 0, none⟩ = some (.int .i64 y) := (blk_cell hVn1 0).trans rfl; have v1c1 : wn1.cell? ⟨w2.heap.size, 1, none⟩ = some (.int .i64 a) := (blk_cell hVn1 1).trans rfl; have v1c2 : wn1.cell? ⟨w2.heap.size, 2, none⟩ = some (.int .i64 0) := (blk_cell hVn1 2).trans rfl; have v1f0 := blk_frozen hVn1 0; have v1f1 := blk_frozen hVn1 1; have v1f2 := blk_frozen hVn1 2; have x1c0 : wn1.cell? ⟨wc0.heap.size, 0, none⟩ = some (.int .i64 7) := (blk_cell hBn1 0).trans rfl; have x1c1 : wn1.cell? ⟨wc0.heap.size, 1, none⟩ = some (.int .i64 8) := (blk_cell hBn1 1).trans rfl; have x1c2 : wn1.cell? ⟨wc0.heap.size, 2, none⟩ = some (.func (.func 82) #[] #[]) := (blk_cell hBn1 2).trans rfl; have HX1n := Lib.hid ((HX0c.out.alloc HX0c.out.size _).trans (hbn1.mono (by first | omega | (simp; done) | (simp; omega)))); have HT1n := Lib.hid hTn1; have HV1n := Lib.hid hVn1; have HP1n := Lib.hid hPn1; have HB1n := Lib.hid hBn1; clear hbn1 hTn1 hVn1 hPn1 hBn1))
  (with_reducible refine (HC1.out _).mono ?_)
  rintro e wc1 ⟨rfl, hbc1⟩
  have hzc1 : wn1.heap.size ≤ wc1.heap.size := (by have := hbc1.size; simpa using this)
  have hTc : wc1.heap[w.heap.size]? = some Z3 := (hbc1.block _ (by first | omega | (simp; done) | (simp; omega))).trans (blk_far HT1n.out (by first | omega | (simp; done) | (simp; omega)) _)
  have hBc : wc1.heap[wc0.heap.size]? = some (.cells #[.int .i64 7, .int .i64 8, .func (.func 82) #[] #[]] 80 (0, 0)) := (hbc1.block _ (by first | omega | (simp; done) | (simp; omega))).trans (blk_far HB1n.out (by first | omega | (simp; done) | (simp; omega)) _)
  have ttc0 : wc1.cell? ⟨w.heap.size, 0, none⟩ = some (.int .i64 0) := (blk_cell hTc 0).trans rfl
  have ttc1 : wc1.cell? ⟨w.heap.size, 1, none⟩ = some (.int .i64 0) := (blk_cell hTc 1).trans rfl
  have ttc2 : wc1.cell? ⟨w.heap.size, 2, none⟩ = some (.int .i64 0) := (blk_cell hTc 2).trans rfl
  have ttf0 := blk_frozen hTc 0
  have ttf1 := blk_frozen hTc 1
  have ttf2 := blk_frozen hTc 2
  have bbc0 : wc1.cell? ⟨wc0.heap.size, 0, none⟩ = some (.int .i64 7) := (blk_cell hBc 0).trans rfl
  have bbc1 : wc1.cell? ⟨wc0.heap.size, 1, none⟩ = some (.int .i64 8) := (blk_cell hBc 1).trans rfl
  have bbc2 : wc1.cell? ⟨wc0.heap.size, 2, none⟩ = some (.func (.func 82) #[] #[]) := (blk_cell hBc 2).trans rfl
  have HXc := Lib.hid ((below_set HX1n.out (by omega) (j := 2) (v := .int .i64 b)).trans (hbc1.mono (by first | omega | (simp; done) | (simp; omega))))
  clear hbc1 hTc hBc
  go_wp2_with (fail)
  go_region
  all_goals
    go_wp2
    refine bodyPost_ret (v := .tuple #[V3 0 0 0, .int .i64 30, .int .i64 7]) (by simp [results, Tryd.results21, go_sem, *]) rfl ⟨rfl, ?_⟩
    (repeat (first | exact HXc.out | refine below_set ?_ (Nat.le_refl _) | refine Below.drew ?_))
end Go.Proofs.YtiklakkkgmilnaaDoor.Ext
set_option linter.unusedVariables false
set_option linter.unusedSimpArgs false
namespace Go.Proofs.YtiklakkkgmilnaaDoor.Ext
open Go.RowKit Go.Proofs.YtiklakkkgmilnaaDoorW.PrintWords Go.Proofs.YtiklakkkgmilnaaDoor.PCal Go.Proofs.YtiklakkkgmilnaaDoor.CalP Go.Proofs.YtiklakkkgmilnaaDoor.GC

set_option maxRecDepth 100000 in
set_option maxHeartbeats 1000000 in
theorem pd_long (s : ByteArray) (w : World) (h64 : s.size > 64) :
    Calls Tryd.prog 21 #[.string s] w fun e w' => e = .returned (.tuple #[V3 0 0 0, .int .i64 1, .int .i64 0]) ∧ Below w.heap.size w w' := by
  go_enter Tryd.func21, Tryd.ntmps21
  go_wp2
  exact bodyPost_ret (v := .tuple #[V3 0 0 0, .int .i64 1, .int .i64 0]) (by simp [results, Tryd.results21, go_sem]) rfl ⟨rfl, (Below.refl _ _).alloc (Nat.le_refl _) _⟩
set_option maxRecDepth 100000 in
set_option maxHeartbeats 1000000 in
theorem pd_none (s : ByteArray) (w : World) (h64 : s.size ≤ 64) (r1 r2 : Int) (h1 : r1 < 0) (hsh : shp s SH 0 0 = (r1, r2)) :
    Calls Tryd.prog 21 #[.string s] w fun e w' => e = .returned (.tuple #[V3 0 0 0, .int .i64 31, .int .i64 r2]) ∧ Below w.heap.size w w' := by
  have HS := Lib.hid (fun W g => shape_call s W g r1 r2 hsh)
  clear hsh
  go_enter Tryd.func21, Tryd.ntmps21
  go_wp2_with (go_at_call 42; (refine (HS.out ((w.alloc Z3).alloc (.cells (SH.map Value.string).toArray 9)) (w.heap.size + 1) (blk_new1 w _ _)).mono ?_); rintro e w1 ⟨rfl, hb1⟩; have HX1 := Lib.hid hb1; have hT1 : w1.heap[w.heap.size]? = some Z3 := (hb1.block _ (by simp; omega)).trans (blk_alloc (blk_new w _) _); have ttc0 : w1.cell? ⟨w.heap.size, 0, none⟩ = some (.int .i64 0) := (blk_cell hT1 0).trans rfl; have ttc1 : w1.cell? ⟨w.heap.size, 1, none⟩ = some (.int .i64 0) := (blk_cell hT1 1).trans rfl; have ttc2 : w1.cell? ⟨w.heap.size, 2, none⟩ = some (.int .i64 0) := (blk_cell hT1 2).trans rfl; have ttf0 := blk_frozen hT1 0; have ttf1 := blk_frozen hT1 1; have ttf2 := blk_frozen hT1 2; clear hb1 hT1)
  refine bodyPost_ret (v := .tuple #[V3 0 0 0, .int .i64 31, .int .i64 r2]) (by simp [results, Tryd.results21, go_sem, *]) rfl ⟨rfl, ?_⟩
  (repeat refine below_set ?_ (Nat.le_refl _))
  exact (((Below.refl _ w).alloc (Nat.le_refl _) _).alloc (by simp) _).trans (HX1.out.mono (by simp; omega))
set_option maxHeartbeats 1000000 in
theorem cal_ParseDate.calls (s : ByteArray) (a1 a2 a3 a4 a5 : Int) (w : World) (hG : GlobOk w) (hf : cal_ParseDate.f s = some (a1, a2, a3, a4, a5)) :
    Calls Tryd.prog 21 #[.string s] w fun e w' => e = .returned (.tuple #[.agg #[.int .i64 a1, .int .i64 a2, .int .i64 a3], .int .i64 a4, .int .i64 a5]) ∧ Below w.heap.size w w' := by
  unfold cal_ParseDate.f at hf
  by_cases h : s.size > 64
  · rw [if_pos h] at hf; cases hf; exact pd_long s w h
  · rw [if_neg h] at hf
    by_cases h1 : (shp s SH 0 0).1 < 0
    · rw [if_pos h1] at hf; cases hf
      exact pd_none s w (by omega) _ _ h1 rfl
    · rw [if_neg h1] at hf
      have hf := Option.some.inj hf
      obtain ⟨j, hj, e1, e2, e3⟩ := shp_get s SH 0 0 (by omega)
      rw [e1] at hf
      have hj6 : j < 6 := hj
      match j, hj6 with
      | 0, _ =>
        have hz : fit s ⟨#[100, 100, 100, 100, 45, 100, 100, 45, 100, 100]⟩ = 10 := e3
        have hs : s.size = 10 := by rw [← hz]; exact e2.symm
        have hsh : shp s SH 0 0 = (0, 0) := e1
        have hf : ymR (nmv s 0 4) (nmv s 5 2) (nmv s 8 2) 5 8 = (a1, a2, a3, a4, a5) := hf
        unfold ymR at hf
        by_cases h0 : 1 ≤ (nmv s 5 2) ∧ (nmv s 5 2) ≤ 12
        · rw [if_pos h0] at hf
          by_cases h1 : 1 ≤ (nmv s 8 2) ∧ (nmv s 8 2) ≤ dim (nmv s 0 4) (nmv s 5 2)
          · rw [if_pos h1] at hf; cases hf; exact pd_0_ok s w hG hs hsh hz h0 h1
          · rw [if_neg h1] at hf; cases hf; exact pd_0_1 s w hG hs hsh hz h0 h1
        · rw [if_neg h0] at hf; cases hf; exact pd_0_0 s w hG hs hsh hz h0
      | 1, _ =>
        have hz : fit s ⟨#[100, 100, 100, 100, 100, 100, 100, 100]⟩ = 8 := e3
        have hs : s.size = 8 := by rw [← hz]; exact e2.symm
        have hsh : shp s SH 0 0 = (1, 0) := e1
        have hf : ymR (nmv s 0 4) (nmv s 4 2) (nmv s 6 2) 4 6 = (a1, a2, a3, a4, a5) := hf
        unfold ymR at hf
        by_cases h0 : 1 ≤ (nmv s 4 2) ∧ (nmv s 4 2) ≤ 12
        · rw [if_pos h0] at hf
          by_cases h1 : 1 ≤ (nmv s 6 2) ∧ (nmv s 6 2) ≤ dim (nmv s 0 4) (nmv s 4 2)
          · rw [if_pos h1] at hf; cases hf; exact pd_1_ok s w hG hs hsh hz h0 h1
          · rw [if_neg h1] at hf; cases hf; exact pd_1_1 s w hG hs hsh hz h0 h1
        · rw [if_neg h0] at hf; cases hf; exact pd_1_0 s w hG hs hsh hz h0
      | 2, _ =>
        have hz : fit s ⟨#[100, 100, 100, 100, 45, 100, 100, 100]⟩ = 8 := e3
        have hs : s.size = 8 := by rw [← hz]; exact e2.symm
        have hsh : shp s SH 0 0 = (2, 0) := e1
        have hf : ydR (nmv s 0 4) (nmv s 5 3) 5 = (a1, a2, a3, a4, a5) := hf
        unfold ydR at hf
        by_cases h0 : 1 ≤ (nmv s 5 3) ∧ (nmv s 5 3) ≤ beg ((nmv s 0 4) + 1) - beg (nmv s 0 4)
        · rw [if_pos h0] at hf
          obtain ⟨⟨r1, r2, r3, r4⟩, hr⟩ := cof_ex (beg (nmv s 0 4) + (nmv s 5 3) - 1)
          have hr := hr 30000 (Nat.le_refl _)
          rw [hr] at hf
          simp only [fin4] at hf
          by_cases h4 : r4 = 0
          · rw [if_pos h4] at hf; cases hf; exact pd_2_ok s w hG hs hsh hz h0 _ _ _ _ hr h4
          · rw [if_neg h4] at hf; cases hf; exact pd_2_e s w hG hs hsh hz h0 _ _ _ _ hr h4
        · rw [if_neg h0] at hf; cases hf; exact pd_2_0 s w hG hs hsh hz h0
      | 3, _ =>
        have hz : fit s ⟨#[100, 100, 100, 100, 100, 100, 100]⟩ = 7 := e3
        have hs : s.size = 7 := by rw [← hz]; exact e2.symm
        have hsh : shp s SH 0 0 = (3, 0) := e1
        have hf : ydR (nmv s 0 4) (nmv s 4 3) 4 = (a1, a2, a3, a4, a5) := hf
        unfold ydR at hf
        by_cases h0 : 1 ≤ (nmv s 4 3) ∧ (nmv s 4 3) ≤ beg ((nmv s 0 4) + 1) - beg (nmv s 0 4)
        · rw [if_pos h0] at hf
          obtain ⟨⟨r1, r2, r3, r4⟩, hr⟩ := cof_ex (beg (nmv s 0 4) + (nmv s 4 3) - 1)
          have hr := hr 30000 (Nat.le_refl _)
          rw [hr] at hf
          simp only [fin4] at hf
          by_cases h4 : r4 = 0
          · rw [if_pos h4] at hf; cases hf; exact pd_3_ok s w hG hs hsh hz h0 _ _ _ _ hr h4
          · rw [if_neg h4] at hf; cases hf; exact pd_3_e s w hG hs hsh hz h0 _ _ _ _ hr h4
        · rw [if_neg h0] at hf; cases hf; exact pd_3_0 s w hG hs hsh hz h0
      | 4, _ =>
        have hz : fit s ⟨#[100, 100, 100, 100, 45, 87, 100, 100, 45, 100]⟩ = 10 := e3
        have hs : s.size = 10 := by rw [← hz]; exact e2.symm
        have hsh : shp s SH 0 0 = (4, 0) := e1
        have hf : ywR (nmv s 0 4) (nmv s 6 2) (nmv s 9 1) 6 9 = (a1, a2, a3, a4, a5) := hf
        unfold ywR at hf
        by_cases h0 : 1 ≤ (nmv s 6 2) ∧ (nmv s 6 2) ≤ wks (nmv s 0 4)
        · rw [if_pos h0] at hf
          by_cases h1 : 1 ≤ (nmv s 9 1) ∧ (nmv s 9 1) ≤ 7
          · rw [if_pos h1] at hf
            obtain ⟨⟨r1, r2, r3, r4⟩, hr⟩ := cfw_ex (nmv s 0 4) (nmv s 6 2) (nmv s 9 1)
            have hr := hr 30001 (by omega)
            rw [hr] at hf
            simp only [fin4] at hf
            by_cases h4 : r4 = 0
            · rw [if_pos h4] at hf; cases hf; exact pd_4_ok s w hG hs hsh hz h0 h1 _ _ _ _ hr h4
            · rw [if_neg h4] at hf; cases hf; exact pd_4_e s w hG hs hsh hz h0 h1 _ _ _ _ hr h4
          · rw [if_neg h1] at hf; cases hf; exact pd_4_1 s w hG hs hsh hz h0 h1
        · rw [if_neg h0] at hf; cases hf; exact pd_4_0 s w hG hs hsh hz h0
      | 5, _ =>
        have hz : fit s ⟨#[100, 100, 100, 100, 87, 100, 100, 100]⟩ = 8 := e3
        have hs : s.size = 8 := by rw [← hz]; exact e2.symm
        have hsh : shp s SH 0 0 = (5, 0) := e1
        have hf : ywR (nmv s 0 4) (nmv s 5 2) (nmv s 7 1) 5 7 = (a1, a2, a3, a4, a5) := hf
        unfold ywR at hf
        by_cases h0 : 1 ≤ (nmv s 5 2) ∧ (nmv s 5 2) ≤ wks (nmv s 0 4)
        · rw [if_pos h0] at hf
          by_cases h1 : 1 ≤ (nmv s 7 1) ∧ (nmv s 7 1) ≤ 7
          · rw [if_pos h1] at hf
            obtain ⟨⟨r1, r2, r3, r4⟩, hr⟩ := cfw_ex (nmv s 0 4) (nmv s 5 2) (nmv s 7 1)
            have hr := hr 30001 (by omega)
            rw [hr] at hf
            simp only [fin4] at hf
            by_cases h4 : r4 = 0
            · rw [if_pos h4] at hf; cases hf; exact pd_5_ok s w hG hs hsh hz h0 h1 _ _ _ _ hr h4
            · rw [if_neg h4] at hf; cases hf; exact pd_5_e s w hG hs hsh hz h0 h1 _ _ _ _ hr h4
          · rw [if_neg h1] at hf; cases hf; exact pd_5_1 s w hG hs hsh hz h0 h1
        · rw [if_neg h0] at hf; cases hf; exact pd_5_0 s w hG hs hsh hz h0
end Go.Proofs.YtiklakkkgmilnaaDoor.Ext
