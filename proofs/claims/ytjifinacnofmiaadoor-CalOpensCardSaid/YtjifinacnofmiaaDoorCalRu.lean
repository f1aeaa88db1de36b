/- The law's rule: a right rule of days drawn. -/
import Derived.Test.YtjifinacnofmiaaDoorCalDy
set_option linter.unusedVariables false
set_option linter.unusedSimpArgs false
namespace Go.Proofs.YtjifinacnofmiaaDoor.Ext
open Go Go.RowKit Go.Proofs.YtjifinacnofmiaaDoorW.PrintWords Go.Proofs.YtjifinacnofmiaaDoorW.PrintLast Go.Proofs.YtjifinacnofmiaaDoor.PCal Go.Proofs.YtjifinacnofmiaaDoor.GC Go.Proofs.YtjifinacnofmiaaDoor.CalP
/-- the rule's block, and all else as it was -/
structure RB (W wr : World) (rb : Nat) (dy : Nat → Bool) (vs ve : Value) : Prop where
  os : wr.os = W.os
  tape : wr.tape = W.tape
  output : wr.output = W.output
  size : W.heap.size ≤ wr.heap.size
  keep : ∀ j, j < W.heap.size → j ≠ rb → wr.heap[j]? = W.heap[j]?
  blk : wr.heap[rb]? = some (.cells (rcells dy vs ve) 25 (0, 0))
section
variable {W wr w' : World} {rb : Nat} {dy : Nat → Bool} {vs ve : Value}
theorem RB.below (h : RB W wr rb dy vs ve) (k : Below wr.heap.size wr w') : RB W w' rb dy vs ve :=
  ⟨k.os.trans h.os, k.tape.trans h.tape, k.output.trans h.output, Nat.le_trans h.size k.size, fun j hj hn => (k.block j (Nat.lt_of_lt_of_le hj h.size)).trans (h.keep j hj hn), (k.block rb (Array.getElem?_eq_some_iff.1 h.blk).1).trans h.blk⟩
theorem RB.put (h : RB W wr rb dy vs ve) (k : Nat) (v : Value) (dy' : Nat → Bool) (vs' ve' : Value) (hc : (rcells dy vs ve).setIfInBounds k v = rcells dy' vs' ve') : RB W (wr.setCell ⟨rb, k, none⟩ v) rb dy' vs' ve' := by
  have hs : (wr.setCell ⟨rb, k, none⟩ v).heap.size = wr.heap.size := by simp [World.setCell]
  refine ⟨h.os, h.tape, h.output, by rw [hs]; exact h.size, fun j hj hn => (Below.heap_setCell wr ⟨rb, k, none⟩ _ j hn).trans (h.keep j hj hn), ?_⟩
  simp only [World.setCell]
  rw [Array.getElem?_modify, if_pos rfl, h.blk, ← hc]
  rfl
theorem RB.free (h : RB W wr rb dy vs ve) (k : Nat) : wr.frozen? ⟨rb, k, none⟩ = false := by simp [World.frozen?, h.blk]
theorem RB.old {w : World} (h : RB W wr rb dy vs ve) (k : Below w.heap.size w W) (hc : w.heap.size ≤ rb) : Below w.heap.size w wr :=
  ⟨h.os.trans k.os, h.tape.trans k.tape, h.output.trans k.output, Nat.le_trans k.size h.size, fun j hj => (h.keep j (Nat.lt_of_lt_of_le hj k.size) (by omega)).trans (k.block j hj)⟩
theorem RB.day (h : RB W wr rb dy vs ve) (k : Nat) (hk : k < 7) : wr.cell? ⟨rb, k, none⟩ = some (.bool (dy k)) := by
  rw [cell_of_row _ _ _ _ _ _ h.blk]
  rcases (show k = 0 ∨ k = 1 ∨ k = 2 ∨ k = 3 ∨ k = 4 ∨ k = 5 ∨ k = 6 by omega) with rfl | rfl | rfl | rfl | rfl | rfl | rfl <;> rfl
theorem RB.c7 (h : RB W wr rb dy vs ve) : wr.cell? ⟨rb, 7, none⟩ = some vs := by rw [cell_of_row _ _ _ _ _ _ h.blk]; rfl
theorem RB.c8 (h : RB W wr rb dy vs ve) : wr.cell? ⟨rb, 8, none⟩ = some ve := by rw [cell_of_row _ _ _ _ _ _ h.blk]; rfl
end
theorem rcells_day (dy : Nat → Bool) (vs ve : Value) (k : Nat) (hk : k < 7) (b : Bool) : (rcells dy vs ve).setIfInBounds k (.bool b) = rcells (fun j => if j = k then b else dy j) vs ve := by
  rcases (show k = 0 ∨ k = 1 ∨ k = 2 ∨ k = 3 ∨ k = 4 ∨ k = 5 ∨ k = 6 by omega) with rfl | rfl | rfl | rfl | rfl | rfl | rfl <;> rfl
theorem rcells_all {w : World} {g : Nat} {dy : Nat → Bool} {vs ve : Value} (h : w.heap[g]? = some (.cells (rcells dy vs ve) 25 (0, 0))) :
    w.cell? ⟨g, 0, none⟩ = some (.bool (dy 0)) ∧ w.cell? ⟨g, 1, none⟩ = some (.bool (dy 1)) ∧ w.cell? ⟨g, 2, none⟩ = some (.bool (dy 2)) ∧ w.cell? ⟨g, 3, none⟩ = some (.bool (dy 3)) ∧ w.cell? ⟨g, 4, none⟩ = some (.bool (dy 4)) ∧ w.cell? ⟨g, 5, none⟩ = some (.bool (dy 5)) ∧ w.cell? ⟨g, 6, none⟩ = some (.bool (dy 6)) ∧ w.cell? ⟨g, 7, none⟩ = some vs ∧ w.cell? ⟨g, 8, none⟩ = some ve := by
  refine ⟨?_, ?_, ?_, ?_, ?_, ?_, ?_, ?_, ?_⟩ <;> (rw [cell_of_row _ _ _ _ _ _ h]; rfl)
theorem rcells_free {w : World} {g : Nat} {cs : Array Value} {t : TypeId} (h : w.heap[g]? = some (.cells cs t (0, 0))) :
    w.frozen? ⟨g, 0, none⟩ = false ∧ w.frozen? ⟨g, 1, none⟩ = false ∧ w.frozen? ⟨g, 2, none⟩ = false ∧ w.frozen? ⟨g, 3, none⟩ = false ∧ w.frozen? ⟨g, 4, none⟩ = false ∧ w.frozen? ⟨g, 5, none⟩ = false ∧ w.frozen? ⟨g, 6, none⟩ = false ∧ w.frozen? ⟨g, 7, none⟩ = false ∧ w.frozen? ⟨g, 8, none⟩ = false := by
  refine ⟨?_, ?_, ?_, ?_, ?_, ?_, ?_, ?_, ?_⟩ <;> simp [World.frozen?, h]
def nineW (w : World) (g : Nat) (dy : Nat → Bool) (vs ve : Value) : World := ((((((((w.setCell ⟨g, 0, none⟩ (.bool (dy 0))).setCell ⟨g, 1, none⟩ (.bool (dy 1))).setCell ⟨g, 2, none⟩ (.bool (dy 2))).setCell ⟨g, 3, none⟩ (.bool (dy 3))).setCell ⟨g, 4, none⟩ (.bool (dy 4))).setCell ⟨g, 5, none⟩ (.bool (dy 5))).setCell ⟨g, 6, none⟩ (.bool (dy 6))).setCell ⟨g, 7, none⟩ vs).setCell ⟨g, 8, none⟩ ve
theorem setc {w : World} {g : Nat} {cs : Array Value} {t : TypeId} {k : Nat} {v : Value} (h : w.heap[g]? = some (.cells cs t (0, 0))) : (w.setCell ⟨g, k, none⟩ v).heap[g]? = some (.cells (cs.setIfInBounds k v) t (0, 0)) := by
  simp only [World.setCell]
  rw [Array.getElem?_modify, if_pos rfl, h]
  rfl
theorem stored9 {w : World} {g : Nat} {dy dy' : Nat → Bool} {vs ve vs' ve' : Value} (h : w.heap[g]? = some (.cells (rcells dy' vs' ve') 25 (0, 0))) : (nineW w g dy vs ve).heap[g]? = some (.cells (rcells dy vs ve) 25 (0, 0)) := by
  have h1 := setc (k := 0) (v := .bool (dy 0)) h
  have h2 := setc (k := 1) (v := .bool (dy 1)) h1
  have h3 := setc (k := 2) (v := .bool (dy 2)) h2
  have h4 := setc (k := 3) (v := .bool (dy 3)) h3
  have h5 := setc (k := 4) (v := .bool (dy 4)) h4
  have h6 := setc (k := 5) (v := .bool (dy 5)) h5
  have h7 := setc (k := 6) (v := .bool (dy 6)) h6
  have h8 := setc (k := 7) (v := vs) h7
  have h9 := setc (k := 8) (v := ve) h8
  unfold nineW
  rw [h9]
  clear h1 h2 h3 h4 h5 h6 h7 h8 h9
  simp only [rcells, List.setIfInBounds_toArray, List.set_cons_zero, List.set_cons_succ]
theorem set9 {n : Nat} {w : World} {v : Value} {l : List D3} (h : DLn n w v l) {g : Nat} (hg : g < n) {dy : Nat → Bool} {vs ve : Value} : DLn n (nineW w g dy vs ve) v l := by
  unfold nineW
  iterate 9 refine DLn.set ?_ (by exact hg) _
  exact h
theorem below9 {n : Nat} {a w : World} (h : Below n a w) {dy : Nat → Bool} {vs ve : Value} : Below n a (nineW w n dy vs ve) := by
  unfold nineW
  iterate 9 refine Below.setCell ?_ (by exact Nat.le_refl n) _
  exact h
theorem DLn.shape {n : Nat} {w : World} {v : Value} {l : List D3} (h : DLn n w v l) : ∃ x c, v = .slice x l.length c := by
  obtain ⟨⟨x, c, e, _⟩, _⟩ := h
  exact ⟨x, c, e⟩
theorem zeroRule (w : World) : (zeroValue 25).run Tryd.prog w = .ok (.agg #[.bool false, .bool false, .bool false, .bool false, .bool false, .bool false, .bool false, .slice none 0 0, .slice none 0 0]) w := by kernel_rfl
set_option maxHeartbeats 4000000 in
set_option maxRecDepth 100000 in
theorem rule_r (wk : Int) (hw0 : 0 ≤ wk) (hw1 : wk ≤ 255) (x1 x2 : Option Addr) (z1 z2 : List Int) (c1 c2 : Nat) (w : World) (hG : GlobOk w) (hN1 : NL w x1 z1) (hN2 : NL w x2 z2) :
    Calls Tryd.prog 7 #[.int .u8 wk, .slice x1 z1.length c1, .slice x2 z2.length c2] w fun e w' => ∃ dy vs ve S E, e = .returned (rvV dy vs ve) ∧ DL w' vs S ∧ DL w' ve E ∧ GoodR S E ∧ Below w.heap.size w w' := by
  have hz := zeroRule
  have HG := Lib.hid hG
  have HN1 := Lib.hid hN1
  have HN2 := Lib.hid hN2
  clear hG hN1 hN2
  go_enter Tryd.func7, Tryd.ntmps7
  go_upto_region 2 with fail
  obtain ⟨W, hW⟩ : ∃ W, W = ((w.alloc (.cells (rcells (fun _ => false) (.slice none 0 0) (.slice none 0 0)) 25)).alloc (.cells (rcells (fun _ => false) (.slice none 0 0) (.slice none 0 0)) 25)) := ⟨_, rfl⟩
  have hw := hW
  unfold rcells at hw
  rw [← hw]
  have K1 : Hid (Below w.heap.size w W) := Lib.hid (by rw [hW]; exact below_alloc (below_alloc (Below.refl _ _) _) _)
  have HR : Hid (RB W W (w.heap.size + 1) (fun _ => false) (.slice none 0 0) (.slice none 0 0)) := Lib.hid ⟨rfl, rfl, rfl, Nat.le_refl _, fun _ _ _ => rfl, by
    rw [hW]
    have := alnew (w.alloc (.cells (rcells (fun _ => false) (.slice none 0 0) (.slice none 0 0)) 25)) (.cells (rcells (fun _ => false) (.slice none 0 0) (.slice none 0 0)) 25)
    rw [World.size_alloc] at this
    exact this⟩
  have P0 : Hid (W.heap[w.heap.size]? = some (.cells (rcells (fun _ => false) (.slice none 0 0) (.slice none 0 0)) 25 (0, 0))) := Lib.hid (by
    rw [hW]
    exact (Below.heap_alloc _ _ _ (by simp)).trans (alnew w _))
  have SZ : Hid (W.heap.size = w.heap.size + 2) := Lib.hid (by rw [hW]; simp)
  clear hz hw hW
  go_wp2_with fail
  go_loopw [8] (fun i wr => ∃ (k : Nat) (dy : Nat → Bool), k ≤ 7 ∧ i = .int .i64 (k : Int) ∧ Hid (RB W wr (w.heap.size + 1) dy (.slice none 0 0) (.slice none 0 0))) (fun i _ => 7 - (intOf i).toNat)
  case atStart => exact ⟨0, _, by omega, rfl, HR⟩
  case round =>
    clear HR
    obtain ⟨k, dy, hk, rfl, HR⟩ := hrel
    by_cases hlt : k < 7
    · have k0 : (0 : Int) ≤ (k : Int) := Int.natCast_nonneg _
      have k1 : (k : Int) < 7 := by omega
      have hfr := HR.out.free k
      have hcl := HR.out.day k hlt
      go_wp2_with fail
      go_roundw
      case rel => exact ⟨k + 1, _, by omega, by go_num, Lib.hid (HR.out.put k _ _ _ _ (rcells_day _ _ _ k hlt _))⟩
      case measure => simp [intOf]; omega
    · obtain rfl : k = 7 := by omega
      clear hlt
      have HB0 := Lib.hid (HR.out.old K1.out (Nat.le_succ _))
      have HS0 := Lib.hid (show w.heap.size + 2 ≤ wr.heap.size by have := HR.out.size; have := SZ.out; omega)
      have HD1 := Lib.hid (days_r x1 z1 c1 0 (.inl rfl) wr (HG.out.below HB0.out) (HN1.out.below HB0.out))
      go_upto_region 7 with (first
        | (go_at_call 17; ((with_reducible refine HD1.out.mono ?_); rintro ev w2 ⟨v1, L1, rfl, hd1, hb1⟩; obtain ⟨y1, k1, hv1⟩ := hd1.shape; subst hv1; have HL1 := Lib.hid hd1; have HX1 := Lib.hid hb1; clear hd1 hb1; have HR1 := Lib.hid (HR.out.below HX1.out.2.2.2); have hfr := HR1.out.free 7; have hcl := HR1.out.c7)))
      obtain ⟨X, hX⟩ : ∃ X, X = w2.setCell ⟨w.heap.size + 1, 7, none⟩ (.slice y1 L1.length k1) := ⟨_, rfl⟩
      rw [← hX]
      have HRX : Hid (RB W X (w.heap.size + 1) dy (.slice y1 L1.length k1) (.slice none 0 0)) := Lib.hid (by rw [hX]; exact HR1.out.put 7 (.slice y1 L1.length k1) dy (.slice y1 L1.length k1) _ rfl)
      have HLX : Hid (DLn wr.heap.size X (.slice y1 L1.length k1) L1) := Lib.hid (by rw [hX]; exact HL1.out.set (by show w.heap.size + 1 < wr.heap.size; have := HS0.out; omega) _)
      have HSX : Hid (w.heap.size + 2 ≤ X.heap.size) := Lib.hid (by have := HRX.out.size; have := SZ.out; omega)
      clear hX hfr hcl HR1
      have HBX := Lib.hid (HRX.out.old K1.out (Nat.le_succ _))
      have HD2 := Lib.hid (days_r x2 z2 c2 1 (.inr rfl) X (HG.out.below HBX.out) (HN2.out.below HBX.out))
      go_upto_region 8 with (first
        | (go_at_call 17; (with_reducible refine HD2.out.mono ?_); rintro ev w3 ⟨v2, L2, rfl, hd1, hb1⟩; obtain ⟨y2, k2, hv2⟩ := hd1.shape; subst hv2; have HL2 := Lib.hid hd1; have HX2 := Lib.hid hb1; clear hd1 hb1; have HR2 := Lib.hid (HRX.out.below HX2.out.2.2.2); have hfr := HR2.out.free 8; have hcl := HR2.out.c8))
      obtain ⟨Y, hY⟩ : ∃ Y, Y = w3.setCell ⟨w.heap.size + 1, 8, none⟩ (.slice y2 L2.length k2) := ⟨_, rfl⟩
      rw [← hY]
      have HRY : Hid (RB W Y (w.heap.size + 1) dy (.slice y1 L1.length k1) (.slice y2 L2.length k2)) := Lib.hid (by rw [hY]; exact HR2.out.put 8 (.slice y2 L2.length k2) dy (.slice y1 L1.length k1) (.slice y2 L2.length k2) rfl)
      have HLY1 : Hid (DLn wr.heap.size Y (.slice y1 L1.length k1) L1) := Lib.hid (by rw [hY]; exact (HLX.out.below HX2.out.2.2.2).set (by show w.heap.size + 1 < wr.heap.size; have := HS0.out; omega) _)
      have HLY2 : Hid (DLn X.heap.size Y (.slice y2 L2.length k2) L2) := Lib.hid (by rw [hY]; exact HL2.out.set (by show w.heap.size + 1 < X.heap.size; have := HSX.out; omega) _)
      clear hY hfr hcl HR2
      have HBY := Lib.hid (HRY.out.old K1.out (Nat.le_succ _))
      have HP : Hid (Y.heap[w.heap.size]? = some (.cells (rcells (fun _ => false) (.slice none 0 0) (.slice none 0 0)) 25 (0, 0))) := Lib.hid ((HRY.out.keep w.heap.size (by have := SZ.out; omega) (by omega)).trans P0.out)
      have r0 := HRY.out.day 0 (by omega)
      have r1 := HRY.out.day 1 (by omega)
      have r2 := HRY.out.day 2 (by omega)
      have r3 := HRY.out.day 3 (by omega)
      have r4 := HRY.out.day 4 (by omega)
      have r5 := HRY.out.day 5 (by omega)
      have r6 := HRY.out.day 6 (by omega)
      have r7 := HRY.out.c7
      have r8 := HRY.out.c8
      obtain ⟨p0, p1, p2, p3, p4, p5, p6, p7, p8⟩ := rcells_all HP.out
      obtain ⟨f0, f1, f2, f3, f4, f5, f6, f7, f8⟩ := rcells_free HP.out
      go_wp2_with fail
      have hp := HP.out
      refine bodyPost_ret (results_cell_row rfl _ _ w.heap.size 25 (rcells dy (.slice y1 L1.length k1) (.slice y2 L2.length k2)) (0, 0) _ rfl (stored9 hp) Tryd.underlying25 rfl rfl) rfl ?_
      refine ⟨dy, _, _, L1, L2, rfl, (set9 HLY1.out (by have := HS0.out; omega)).dl, (set9 HLY2.out (by have := HSX.out; omega)).dl, ?_, below9 HBY.out⟩
      obtain ⟨g1, l1, q1, _⟩ := HX1.out
      obtain ⟨g2, l2, q2, _⟩ := HX2.out
      refine ⟨g1, g2, l1, l2, fun d hd => ?_⟩
      cases h : has L2 (nm d) with
      | false => rfl
      | true =>
        obtain ⟨i, hi, he⟩ := (has_iff L2 (nm d)).1 h
        have a := q1 d hd
        have b := q2 L2[i] (List.getElem_mem hi)
        rw [he] at b
        omega
end Go.Proofs.YtjifinacnofmiaaDoor.Ext
