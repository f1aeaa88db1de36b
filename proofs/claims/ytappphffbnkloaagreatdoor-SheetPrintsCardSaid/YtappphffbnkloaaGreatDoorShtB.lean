/- The reader's methods that append: put, endCell, endRow. -/
import Derived.Test.YtappphffbnkloaaGreatDoorShtA
import Derived.Deep.RegionHeld3
import Derived.Deep.DrawnRows
import Derived.StillTailTactics
import Derived.Lib.Hide
set_option linter.unusedVariables false
set_option linter.unusedSimpArgs false
namespace Go.Proofs.YtappphffbnkloaaGreatDoor.Sht
open Go Go.RowKit
attribute [local go_sem ↓] Go.wp_at_zero Go.wp_at_succ
variable {A : Nat → Addr} {W0 W : World} {b : Nat} {s : RS}
theorem info5 : (Tryz.prog.info? 5).map (fun i => (i.zero, i.size, i.bytes)) = some (some (.int .u8 0), 1, 1) := by kernel_rfl
theorem info9 : (Tryz.prog.info? 9).map (fun i => (i.zero, i.size, i.bytes)) = some (some (.string ⟨#[]⟩), 1, 16) := by kernel_rfl
theorem info28 : (Tryz.prog.info? 28).map (fun i => (i.zero, i.size, i.bytes)) = some (some (.slice none 0 0), 1, 24) := by kernel_rfl
/-- a byte more in the cell -/
theorem RD.appCell {vc vr vl fl : Value} {lv : List Value} {w1 : World} {g cap : Nat} {x : UInt8} (h : RD A W0 W b s vc vr vl fl lv) (hg : W.grownBy w1 vc.ownBlock) (hat : vc.ownBlock = some g ∨ g = W.heap.size)
    (hown : w1.ownsRow W0.heap.size 5 1 (.slice (some ⟨g, 0, none⟩) (s.cell.length + 1) cap) (s.cell.length + 1) (bs s.cell ++ [ch x])) :
    RD A W0 (w1.setCell ⟨b, 7, none⟩ (.slice (some ⟨g, 0, none⟩) (s.cell.length + 1) cap)) b { s with cell := s.cell ++ [x] } (.slice (some ⟨g, 0, none⟩) (s.cell.length + 1) cap) vr vl fl lv := by
  have hd := h.dis
  have hlt := h.all_lt
  have hd' := hd
  simp only [List.nodup_cons, List.nodup_append, List.mem_append] at hd'
  obtain ⟨nb, _, _, nc⟩ := hd'
  have hb := h.lt
  -- the blocks that are neither b nor the cell's
  have keep : ∀ j, j < W.heap.size → j ≠ b → vc.ownBlock ≠ some j → (w1.setCell ⟨b, 7, none⟩ (.slice (some ⟨g, 0, none⟩) (s.cell.length + 1) cap)).heap[j]? = W.heap[j]? := fun j hj hn hv =>
    (Below.heap_setCell w1 ⟨b, 7, none⟩ _ j hn).trans (hg.block j hj (fun e => hv e.symm))
  have kp : ∀ j, (j ∈ ob vr ∨ j ∈ ob vl ∨ j ∈ fb fl ∨ j ∈ lv.flatMap ob) → (w1.setCell ⟨b, 7, none⟩ (.slice (some ⟨g, 0, none⟩) (s.cell.length + 1) cap)).heap[j]? = W.heap[j]? := fun j hj =>
    keep j (hlt j (by simp only [List.mem_cons, List.mem_append]; exact .inr (.inr hj))) (fun e => nb (e ▸ .inr hj)) (fun e => nc j (mem_ob.2 e) j hj rfl)
  have hbc : vc.ownBlock ≠ some b := fun e => nb (.inl (mem_ob.2 e))
  have hblk : w1.heap[b]? = W.heap[b]? := hg.block b hb (fun e => hbc e.symm)
  have hgb : g ≠ b := by
    rcases hat with e | e
    · rintro rfl; exact hbc e
    · omega
  refine ⟨(h.below.trans ⟨hg.os, hg.tape, hg.output, hg.size, fun k hk => hg.block k (Nat.lt_of_lt_of_le hk h.below.size) (fun e => by have := (h.hc.lt k e.symm).1; omega)⟩).setCell h.hb _, h.hb, (bset (hblk.trans h.blk) 7 _).trans rfl, ?_, ownsRow_kept h.hr fun j hj => kp j (.inl (mem_ob.2 hj)),
    ownsRow_kept h.hl fun j hj => kp j (.inr (.inl (mem_ob.2 hj))), rowsAt_kept h.rws fun j hj => kp j (.inr (.inr (.inr hj))), faultAt_kept h.flt fun j hj => kp j (.inr (.inr (.inl hj))), ?_⟩
  · have := ownsRow_kept hown (W' := w1.setCell ⟨b, 7, none⟩ (.slice (some ⟨g, 0, none⟩) (s.cell.length + 1) cap)) (fun j hj => Below.heap_setCell w1 ⟨b, 7, none⟩ _ j (show j ≠ b by simp only [Value.ownBlock, Option.some.injEq] at hj; omega))
    simpa [bs] using this
  · have hy : (Value.slice (some ⟨g, 0, none⟩) (s.cell.length + 1) cap).ownBlock = vc.ownBlock ∨ (Value.slice (some ⟨g, 0, none⟩) (s.cell.length + 1) cap).ownBlock = some W.heap.size := by
      rcases hat with e | e
      · exact .inl e.symm
      · exact .inr (by rw [e]; rfl)
    exact nd_new (p := [b]) (q := ob vr ++ (ob vl ++ (fb fl ++ lv.flatMap ob))) (x := vc.ownBlock) hd hy (fun j hj => hlt j (by simp only [List.mem_cons, List.mem_append, List.not_mem_nil, or_false] at hj ⊢; rcases hj with hj | hj; exact .inl hj; exact .inr (.inr hj)))
theorem RD.ne_c {vc vr vl fl : Value} {lv : List Value} (h : RD A W0 W b s vc vr vl fl lv) : vc.ownBlock ≠ some b := fun e => by
  have hd := h.dis
  simp only [List.nodup_cons, List.mem_append] at hd
  exact hd.1 (.inl (mem_ob.2 e))
theorem RD.ne_r {vc vr vl fl : Value} {lv : List Value} (h : RD A W0 W b s vc vr vl fl lv) : vr.ownBlock ≠ some b := fun e => by
  have hd := h.dis
  simp only [List.nodup_cons, List.mem_append] at hd
  exact hd.1 (.inr (.inl (mem_ob.2 e)))
theorem RD.ne_l {vc vr vl fl : Value} {lv : List Value} (h : RD A W0 W b s vc vr vl fl lv) : vl.ownBlock ≠ some b := fun e => by
  have hd := h.dis
  simp only [List.nodup_cons, List.mem_append] at hd
  exact hd.1 (.inr (.inr (.inl (mem_ob.2 e))))
/-- the reader's block behind an append -/
theorem RD.grown {vc vr vl fl : Value} {lv : List Value} {w1 : World} {r : Option Nat} (h : RD A W0 W b s vc vr vl fl lv) (hg : W.grownBy w1 r) (hr : r ≠ some b) (k : Nat) : w1.cell? ⟨b, k, none⟩ = (cellsOf b s vc vr vl fl)[k]? ∧ w1.frozen? ⟨b, k, none⟩ = false := by
  have hblk : w1.heap[b]? = some (.cells (cellsOf b s vc vr vl fl) 82 (0, 0)) := (hg.block b h.lt (fun e => hr e.symm)).trans h.blk
  exact ⟨bcell hblk k, bfree hblk k⟩
theorem RD.gl (hF : SF W0 A) {vc vr vl fl : Value} {lv : List Value} (h : RD A W0 W b s vc vr vl fl lv) (c : Nat) (hc : coded c) : W.cell? ⟨Sht.gl c, 0, none⟩ = some (errV A c) :=
  (hF.below h.below).hv c hc
/-- the frame of an append that ends in a store into the reader's block -/
theorem fr_app {vc vr vl fl vc' vr' vl' fl' : Value} {lv lv' : List Value} {s' : RS} {w1 w2 : World} {o : Obj} {v : Value} {g k : Nat} {u : Value} (h : RD A W0 W b s vc vr vl fl lv) (h2 : RD A W0 w2 b s' vc' vr' vl' fl' lv') (e2 : w2 = w1.setCell ⟨b, k, none⟩ u)
    (hg : (W.alloc o).grownBy w1 v.ownBlock) (hv : ∀ j, v.ownBlock = some j → vc.ownBlock = some j ∨ vr.ownBlock = some j ∨ vl.ownBlock = some j) (hat : v.ownBlock = some g ∨ g = (W.alloc o).heap.size)
    (ho : ∀ j, (vc'.ownBlock = some j ∨ vr'.ownBlock = some j ∨ vl'.ownBlock = some j) → (vc.ownBlock = some j ∨ vr.ownBlock = some j ∨ vl.ownBlock = some j) ∨ j = g) : Fr b W w2 := by
  subst e2
  refine h.fr h2 hg.os hg.tape hg.output (by rw [setSize]; exact Nat.le_trans (by simp) hg.size) (fun j hj hn q1 q2 q3 => ?_) (fun j hj => ?_)
  · exact (Below.heap_setCell w1 ⟨b, k, none⟩ _ j hn).trans ((hg.block j (by simp; omega) (fun e => by rcases hv j e.symm with h1 | h1 | h1; exact q1 h1; exact q2 h1; exact q3 h1)).trans (Below.heap_alloc W o j hj))
  · rcases ho j hj with h1 | rfl
    · exact .inl h1
    · rcases hat with h1 | h1
      · exact .inl (hv _ h1)
      · refine .inr ?_
        rw [h1]; simp
set_option maxHeartbeats 2000000 in
set_option maxRecDepth 100000 in
theorem put_r (hF : SF W0 A) (x : UInt8) {N : Nat} (hB : s.Bd N) (hN : N ≤ 1099511627776) (hR : R A W0 W b s) : Does A W0 W b (s.put x) 100 #[PT b, .int .u8 (x.toNat : Int)] := by
  obtain ⟨vc, vr, vl, fl, lv, h⟩ := hR
  obtain ⟨i0, hi, hz0, hz1, hz2⟩ := info_parts info5
  obtain ⟨_, _, _, _, _, _, _, c7, _, _, _, _, _⟩ := h.cells
  obtain ⟨_, _, _, _, _, _, _, f7, _, _, _, _, _⟩ := h.free
  have hcl := hB.cell
  have h0 := h.alloc (.cells #[ch x] 5)
  have hlt := h.lt
  have HH := Lib.hid h
  have HB := Lib.hid hB
  clear h hB
  go_enter Tryz.func100, Tryz.ntmps100
  go_wp2_with (at_builtin; refine wpList_append_lies _ rfl (.tmp 8) (.tmp 10) 37 rfl W0.heap.size 5 i0 (.int .u8 0) 1 1 Tryz.underlying37 hi hz0 hz1 hz2 rfl (by decide) vc s.cell.length (bs s.cell) rfl h0.hc ⟨W.heap.size, 0, none⟩ 1 1 [ch x] rfl rfl (World.news_of_block (cs := #[ch x]) (t := 5) (fr := (0, 0)) (heap_alloc_new W _)) (by simp [Value.oneCell']) (by omega) (by unfold maxLen; omega) (by omega) h0.below.size (W.alloc (.cells #[ch x] 5)).heap.size rfl ?_; intro g cap w1 hown1 hgrow hat hlt1; have H2 := Lib.hid (h0.appCell (x := x) hgrow hat hown1); obtain ⟨e7, q7⟩ := h0.grown hgrow h0.ne_c 7; replace e7 : w1.cell? ⟨b, 7, none⟩ = some vc := e7; have HG := Lib.hid hgrow; have HA := Lib.hid hat; clear hown1 hgrow hat)
  all_goals
    have HF := Lib.hid (fr_app (g := g) HH.out H2.out rfl HG.out (fun j hj => .inl hj) HA.out (fun j hj => by rcases hj with hj | hj | hj; exact .inr (by simpa [Value.ownBlock] using hj.symm); exact .inl (.inr (.inl hj)); exact .inl (.inr (.inr hj))))
    clear e7 q7 HG HA h0 hi hz0 hz1 hz2
    obtain ⟨w2, hw2⟩ : ∃ w2, w2 = w1.setCell ⟨b, 7, none⟩ (.slice (some ⟨g, 0, none⟩) (s.cell.length + 1) cap) := ⟨_, rfl⟩
    rw [← hw2]
    replace H2 := Lib.hid (hw2 ▸ H2.out)
    replace HF := Lib.hid (hw2 ▸ HF.out)
    clear hw2
  · obtain ⟨_, _, c2, c3, _⟩ := H2.out.cells
    have gE : w2.cell? ⟨8, 0, none⟩ = some (errV A 5) := H2.out.gl hF 5 (.inl (by omega))
    go_still_tail 6, (by kernel_rfl)
    change wpList _ _ _ _ _ w2.drew
    have hR2 := R.mk H2.out.drew
    have k5 : coded 5 := .inl (by omega)
    go_wp2_with (go_at_call 45; ((with_reducible refine (fail_r s.line s.col 5 k5 hR2).mono ?_); rintro e w3 ⟨rfl, hR3, hF3⟩))
    go_end0
    have hle : 4096 < (s.cell ++ [x]).length := by have : 4096 < (s.cell.length : Int) + 1 := by assumption
                                                   simp; omega
    refine ⟨rfl, ?_, HF.out.drew.trans hF3⟩
    rw [RS.put, if_pos hle]
    exact hR3
  · go_end0
    have hle : ¬ 4096 < (s.cell ++ [x]).length := by have : (s.cell.length : Int) + 1 ≤ 4096 := by assumption
                                                     simp; omega
    refine ⟨rfl, ?_, HF.out⟩
    rw [RS.put, if_neg hle]
    exact ⟨_, _, _, _, _, H2.out⟩
end Go.Proofs.YtappphffbnkloaaGreatDoor.Sht
