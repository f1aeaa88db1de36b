/- The reader's endCell. -/
import Derived.Test.YtappphffbnkloaaGreatDoorShtB
import Derived.Laws.BytesArg
import Derived.Lib.SmallJoins
import Derived.OwnWalk
import Derived.Deep.RegionLaw
set_option linter.unusedVariables false
set_option linter.unusedSimpArgs false
namespace Go.Proofs.YtappphffbnkloaaGreatDoor.Sht
open Go Go.RowKit Go.Joins
attribute [local go_sem ↓] Go.wp_at_zero Go.wp_at_succ
variable {A : Nat → Addr} {W0 W : World} {b : Nat} {s : RS}
theorem ofNat_toNat (x : UInt8) : UInt8.ofNat x.toNat = x := by simp
/-- the bytes of a list as a text -/
theorem conv_bytes {B : Nat} {v : Value} {l : List UInt8} (h : W.ownsRow B 5 1 v l.length (bs l)) : (convert 37 9 v).run Tryz.prog W = .ok (st l) W := by
  obtain ⟨_, h2⟩ := h
  rcases h2 with ⟨rfl, h2⟩ | ⟨g, cap, cur, rfl, hg, hh, hn, hm, hs, ht⟩
  · obtain rfl : l = [] := List.eq_nil_of_length_eq_zero h2
    exact run_convert_bytes_nil W 37 5 Tryz.underlying37 Tryz.underlying5 0 0 9 Tryz.underlying9
  · have := run_convert_bytes_arg (P := Tryz.prog) W 37 5 Tryz.underlying37 Tryz.underlying5 g 0 l.length cap (l.map fun x => (x.toNat : Int)) (by simp) (fun i hi => by
      rw [Nat.zero_add, bcell hh i]
      have e : (bs l)[i]? = cur[i]? := by
        rw [← ht, List.getElem?_take, if_pos (by omega)]; simp
      rw [← e]
      simp [bs, List.getD, List.getElem?_eq_getElem hi]) 9 Tryz.underlying9
    have e : strOfNums (l.map fun x => (x.toNat : Int)) = ⟨l.toArray⟩ := by
      show (⟨((l.map fun x => (x.toNat : Int)).map fun n => UInt8.ofNat n.toNat).toArray⟩ : ByteArray) = ⟨l.toArray⟩
      rw [List.map_map, show ((fun n : Int => UInt8.ofNat n.toNat) ∘ fun x : UInt8 => (x.toNat : Int)) = id from funext fun x => by simp, List.map_id]
    rw [e] at this
    exact this
/-- a text more in the row -/
theorem RD.appRow {vc vr vl fl : Value} {lv : List Value} {w1 : World} {g cap : Nat} {x : List UInt8} (h : RD A W0 W b s vc vr vl fl lv) (hg : W.grownBy w1 vr.ownBlock) (hat : vr.ownBlock = some g ∨ g = W.heap.size)
    (hown : w1.ownsRow W0.heap.size 9 1 (.slice (some ⟨g, 0, none⟩) (s.row.length + 1) cap) (s.row.length + 1) (sts s.row ++ [st x])) :
    RD A W0 (w1.setCell ⟨b, 8, none⟩ (.slice (some ⟨g, 0, none⟩) (s.row.length + 1) cap)) b { s with row := s.row ++ [x] } vc (.slice (some ⟨g, 0, none⟩) (s.row.length + 1) cap) vl fl lv := by
  have hd := h.dis
  have hlt := h.all_lt
  have hd' := hd
  simp only [List.nodup_cons, List.nodup_append, List.mem_append] at hd'
  obtain ⟨nb, _, ⟨_, _, nr⟩, nc⟩ := hd'
  have hb := h.lt
  have keep : ∀ j, j < W.heap.size → j ≠ b → vr.ownBlock ≠ some j → (w1.setCell ⟨b, 8, none⟩ (.slice (some ⟨g, 0, none⟩) (s.row.length + 1) cap)).heap[j]? = W.heap[j]? := fun j hj hn hv =>
    (Below.heap_setCell w1 ⟨b, 8, none⟩ _ j hn).trans (hg.block j hj (fun e => hv e.symm))
  have kp : ∀ j, (j ∈ ob vl ∨ j ∈ fb fl ∨ j ∈ lv.flatMap ob) → (w1.setCell ⟨b, 8, none⟩ (.slice (some ⟨g, 0, none⟩) (s.row.length + 1) cap)).heap[j]? = W.heap[j]? := fun j hj =>
    keep j (hlt j (by simp only [List.mem_cons, List.mem_append]; exact .inr (.inr (.inr hj)))) (fun e => nb (e ▸ .inr (.inr hj))) (fun e => nr j (mem_ob.2 e) j hj rfl)
  have kc : ∀ j, j ∈ ob vc → (w1.setCell ⟨b, 8, none⟩ (.slice (some ⟨g, 0, none⟩) (s.row.length + 1) cap)).heap[j]? = W.heap[j]? := fun j hj =>
    keep j (hlt j (by simp only [List.mem_cons, List.mem_append]; exact .inr (.inl hj))) (fun e => nb (e ▸ .inl hj)) (fun e => nc j hj j (.inl (mem_ob.2 e)) rfl)
  have hbc : vr.ownBlock ≠ some b := h.ne_r
  have hblk : w1.heap[b]? = W.heap[b]? := hg.block b hb (fun e => hbc e.symm)
  have hgb : g ≠ b := by
    rcases hat with e | e
    · rintro rfl; exact hbc e
    · omega
  refine ⟨(h.below.trans ⟨hg.os, hg.tape, hg.output, hg.size, fun k hk => hg.block k (Nat.lt_of_lt_of_le hk h.below.size) (fun e => by have := (h.hr.lt k e.symm).1; omega)⟩).setCell h.hb _, h.hb, (bset (hblk.trans h.blk) 8 _).trans rfl, ownsRow_kept h.hc fun j hj => kc j (mem_ob.2 hj), ?_,
    ownsRow_kept h.hl fun j hj => kp j (.inl (mem_ob.2 hj)), rowsAt_kept h.rws fun j hj => kp j (.inr (.inr hj)), faultAt_kept h.flt fun j hj => kp j (.inr (.inl hj)), ?_⟩
  · have := ownsRow_kept hown (W' := w1.setCell ⟨b, 8, none⟩ (.slice (some ⟨g, 0, none⟩) (s.row.length + 1) cap)) (fun j hj => Below.heap_setCell w1 ⟨b, 8, none⟩ _ j (show j ≠ b by simp only [Value.ownBlock, Option.some.injEq] at hj; omega))
    simpa [sts] using this
  · have hy : (Value.slice (some ⟨g, 0, none⟩) (s.row.length + 1) cap).ownBlock = vr.ownBlock ∨ (Value.slice (some ⟨g, 0, none⟩) (s.row.length + 1) cap).ownBlock = some W.heap.size := by
      rcases hat with e | e
      · exact .inl e.symm
      · exact .inr (by rw [e]; rfl)
    have := nd_new (p := b :: ob vc) (q := ob vl ++ (fb fl ++ lv.flatMap ob)) (x := vr.ownBlock) (by simpa [ob] using hd) hy (fun j hj => hlt j (by simp only [List.mem_cons, List.mem_append] at hj ⊢; rcases hj with (hj | hj) | hj; exact .inl hj; exact .inr (.inl hj); exact .inr (.inr (.inr hj))))
    simpa [ob] using this
/-- the cell is emptied: its room stays -/
def emptied : Value → Value
  | .slice a _ c => .slice a 0 c
  | v => v
theorem emptied_own (v : Value) : (emptied v).ownBlock = v.ownBlock := by
  cases v with
  | slice a n c => cases a <;> rfl
  | _ => rfl
theorem RD.empty {vc vr vl fl : Value} {lv : List Value} (h : RD A W0 W b s vc vr vl fl lv) : RD A W0 (W.setCell ⟨b, 7, none⟩ (emptied vc)) b { s with cell := [] } (emptied vc) vr vl fl lv := by
  have hd := h.dis
  simp only [List.nodup_cons, List.mem_append] at hd
  have far : ∀ j, j ≠ b → (W.setCell ⟨b, 7, none⟩ (emptied vc)).heap[j]? = W.heap[j]? := fun j hj => Below.heap_setCell W ⟨b, 7, none⟩ _ j hj
  have ne : ∀ j, (j ∈ ob vc ∨ j ∈ ob vr ∨ j ∈ ob vl ∨ j ∈ fb fl ∨ j ∈ lv.flatMap ob) → j ≠ b := fun j hj e => hd.1 (e ▸ hj)
  refine ⟨h.below.setCell h.hb _, h.hb, (bset h.blk 7 _).trans rfl, ?_, ownsRow_kept h.hr fun j hj => far j (ne j (.inr (.inl (mem_ob.2 hj)))),
    ownsRow_kept h.hl fun j hj => far j (ne j (.inr (.inr (.inl (mem_ob.2 hj))))), rowsAt_kept h.rws fun j hj => far j (ne j (.inr (.inr (.inr (.inr hj))))), faultAt_kept h.flt fun j hj => far j (ne j (.inr (.inr (.inr (.inl hj))))), ?_⟩
  · have ho := ownsRow_kept h.hc (W' := W.setCell ⟨b, 7, none⟩ (emptied vc)) fun j hj => far j (ne j (.inl (mem_ob.2 hj)))
    obtain ⟨_, h2⟩ := ho
    refine ⟨by simp [bs], ?_⟩
    rcases h2 with ⟨e, _⟩ | ⟨g, cap, cur, e, hg, hh, hn, hm, hs, ht⟩
    · exact .inl ⟨by rw [e]; rfl, rfl⟩
    · exact .inr ⟨g, cap, cur, by rw [e]; rfl, hg, hh, Nat.zero_le _, hm, hs, by simp [bs]⟩
  · have e : ob (emptied vc) = ob vc := by simp [ob, emptied_own]
    rw [e]; exact h.dis
theorem RD.empty_fr {vc vr vl fl : Value} {lv : List Value} (h : RD A W0 W b s vc vr vl fl lv) : Fr b W (W.setCell ⟨b, 7, none⟩ (emptied vc)) :=
  h.fr h.empty rfl rfl rfl (by rw [setSize]; exact Nat.le_refl _) (fun j hj hn _ _ _ => Below.heap_setCell W ⟨b, 7, none⟩ _ j hn) (fun j hj => by rw [emptied_own] at hj; exact .inl hj)
set_option maxHeartbeats 2000000 in
set_option maxRecDepth 100000 in
theorem endCell_r (hF : SF W0 A) {N : Nat} (hB : s.Bd N) (hN : N ≤ 1099511627776) (hR : R A W0 W b s) : Does A W0 W b s.endCell 102 #[PT b] := by
  obtain ⟨vc, vr, vl, fl, lv, h⟩ := hR
  obtain ⟨i0, hi, hz0, hz1, hz2⟩ := info_parts info9
  obtain ⟨_, _, _, _, _, _, _, c7, c8, _, _, _, _⟩ := h.cells
  obtain ⟨_, _, _, _, _, _, _, f7, f8, _, _, _, _⟩ := h.free
  have hcv : (convert 37 9 vc).run Tryz.prog W.drew = .ok (st s.cell) W.drew := conv_bytes h.drew.hc
  have hrl := hB.row
  have hlt := h.lt
  have HH := Lib.hid h
  rcases ownsRow_forms h.hc with ⟨rfl, _⟩ | ⟨gc, cc, rfl⟩
  all_goals clear h hB
  all_goals
   go_enter Tryz.func102, Tryz.ntmps102
   go_wp2_with fail
   have h0 := (HH.out.drew).alloc (.cells #[st s.cell] 9)
   have HHr := Lib.hid h0.hr
   go_region_law ((refine step_append_lies _ (by rfl) _ _ 28 (by rfl) W0.heap.size 9 i0 (.string ⟨#[]⟩) 1 16 Tryz.underlying28 hi hz0 hz1 hz2 rfl (by decide) vr s.row.length (sts s.row) (by rfl) h0.hr ⟨W.heap.size, 0, none⟩ 1 1 [st s.cell] (by rfl) rfl (World.news_of_block (cs := #[st s.cell]) (t := 9) (fr := (0, 0)) (heap_alloc_new W.drew _)) (by simp [Value.oneCell']) (by omega) (by unfold maxLen; omega) (by omega) h0.below.size (W.drew.alloc (.cells #[st s.cell] 9)).heap.size rfl ?_; intro g cap w1 hown1 hgrow hat hlt1; have H2 := Lib.hid (h0.appRow hgrow hat hown1); obtain ⟨e8, q8⟩ := h0.grown hgrow h0.ne_r 8; replace e8 := e8.trans (rfl : _ = some _); obtain ⟨e7, q7⟩ := h0.grown hgrow h0.ne_r 7; replace e7 := e7.trans (rfl : _ = some _); have HG := Lib.hid hgrow; have HA := Lib.hid hat; clear hown1 hgrow hat))
   all_goals
     have HF := Lib.hid (fr_app (g := g) HH.out.drew H2.out rfl HG.out (fun j hj => .inr (.inl hj)) HA.out (fun j hj => by rcases hj with hj | hj | hj; exact .inl (.inl hj); exact .inr (by simpa [Value.ownBlock] using hj.symm); exact .inl (.inr (.inr hj))))
     clear e7 q7 e8 q8 HG HA h0 hi hz0 hz1 hz2 hcv
     obtain ⟨w2, hw2⟩ : ∃ w2, w2 = w1.setCell ⟨b, 8, none⟩ (.slice (some ⟨g, 0, none⟩) (s.row.length + 1) cap) := ⟨_, rfl⟩
     rw [← hw2]
     replace H2 := Lib.hid (hw2 ▸ H2.out)
     replace HF := Lib.hid (hw2 ▸ HF.out)
     clear hw2
     obtain ⟨_, _, _, _, _, _, _, c7, _, _, _, _, _⟩ := H2.out.cells
     obtain ⟨_, _, _, _, _, _, _, f7, _, _, _, _, _⟩ := H2.out.free
     go_wp2
     go_end0
     exact ⟨rfl, R.mk H2.out.empty, ((Fr.refl b W).drew.trans HF.out).trans H2.out.empty_fr⟩
end Go.Proofs.YtappphffbnkloaaGreatDoor.Sht
