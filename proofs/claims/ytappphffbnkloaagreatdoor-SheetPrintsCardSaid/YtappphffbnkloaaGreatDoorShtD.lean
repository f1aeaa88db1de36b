/- The reader's endRow. -/
import Derived.Test.YtappphffbnkloaaGreatDoorShtC
import Derived.Deep.QuietTactic
import Derived.BigQuiet
set_option linter.unusedVariables false
set_option linter.unusedSimpArgs false
namespace Go.Proofs.YtappphffbnkloaaGreatDoor.Sht
open Go Go.RowKit Go.Joins
attribute [local go_sem ↓] Go.wp_at_zero Go.wp_at_succ
variable {A : Nat → Addr} {W0 W : World} {b : Nat} {s : RS}
theorem rowsAt_snoc {W : World} {B : Nat} {v : Value} {r : List (List UInt8)} (h : W.ownsRow B 9 1 v r.length (sts r)) : ∀ {lv : List Value} {rs : List (List (List UInt8))}, RowsAt W B lv rs → RowsAt W B (lv ++ [v]) (rs ++ [r])
  | [], [], _ => ⟨h, trivial⟩
  | _ :: lv, _ :: rs, q => ⟨q.1, rowsAt_snoc h q.2⟩
  | [], _ :: _, q => q.elim
  | _ :: _, [], q => q.elim
/-- the row goes to the rows -/
theorem RD.appRows {vc vr vl fl : Value} {lv : List Value} {w1 : World} {g cap : Nat} (h : RD A W0 W b s vc vr vl fl lv) (hg : W.grownBy w1 vl.ownBlock) (hat : vl.ownBlock = some g ∨ g = W.heap.size)
    (hown : w1.ownsRow W0.heap.size 28 1 (.slice (some ⟨g, 0, none⟩) (s.rows.length + 1) cap) (s.rows.length + 1) (lv ++ [vr])) :
    RD A W0 ((w1.setCell ⟨b, 9, none⟩ (.slice (some ⟨g, 0, none⟩) (s.rows.length + 1) cap)).setCell ⟨b, 8, none⟩ (.slice none 0 0)) b { s with rows := s.rows ++ [s.row], row := [] } vc (.slice none 0 0) (.slice (some ⟨g, 0, none⟩) (s.rows.length + 1) cap) fl (lv ++ [vr]) := by
  have hd := h.dis
  have hlt := h.all_lt
  have hd' := hd
  simp only [List.nodup_cons, List.nodup_append, List.mem_append] at hd'
  obtain ⟨nb, _, ⟨_, ⟨_, _, nl⟩, nr⟩, nc⟩ := hd'
  have hb := h.lt
  have keep : ∀ j, j < W.heap.size → j ≠ b → vl.ownBlock ≠ some j → ((w1.setCell ⟨b, 9, none⟩ (.slice (some ⟨g, 0, none⟩) (s.rows.length + 1) cap)).setCell ⟨b, 8, none⟩ (.slice none 0 0)).heap[j]? = W.heap[j]? := fun j hj hn hv =>
    (Below.heap_setCell _ ⟨b, 8, none⟩ _ j hn).trans ((Below.heap_setCell w1 ⟨b, 9, none⟩ _ j hn).trans (hg.block j hj (fun e => hv e.symm)))
  have kp : ∀ j, (j ∈ fb fl ∨ j ∈ lv.flatMap ob) → ((w1.setCell ⟨b, 9, none⟩ (.slice (some ⟨g, 0, none⟩) (s.rows.length + 1) cap)).setCell ⟨b, 8, none⟩ (.slice none 0 0)).heap[j]? = W.heap[j]? := fun j hj =>
    keep j (hlt j (by simp only [List.mem_cons, List.mem_append]; exact .inr (.inr (.inr (.inr hj))))) (fun e => nb (e ▸ .inr (.inr (.inr hj)))) (fun e => nl j (mem_ob.2 e) j hj rfl)
  have kc : ∀ j, j ∈ ob vc → ((w1.setCell ⟨b, 9, none⟩ (.slice (some ⟨g, 0, none⟩) (s.rows.length + 1) cap)).setCell ⟨b, 8, none⟩ (.slice none 0 0)).heap[j]? = W.heap[j]? := fun j hj =>
    keep j (hlt j (by simp only [List.mem_cons, List.mem_append]; exact .inr (.inl hj))) (fun e => nb (e ▸ .inl hj)) (fun e => nc j hj j (.inr (.inl (mem_ob.2 e))) rfl)
  have kr : ∀ j, j ∈ ob vr → ((w1.setCell ⟨b, 9, none⟩ (.slice (some ⟨g, 0, none⟩) (s.rows.length + 1) cap)).setCell ⟨b, 8, none⟩ (.slice none 0 0)).heap[j]? = W.heap[j]? := fun j hj =>
    keep j (hlt j (by simp only [List.mem_cons, List.mem_append]; exact .inr (.inr (.inl hj)))) (fun e => nb (e ▸ .inr (.inl hj))) (fun e => nr j hj j (.inl (mem_ob.2 e)) rfl)
  have hbc : vl.ownBlock ≠ some b := h.ne_l
  have hblk : w1.heap[b]? = W.heap[b]? := hg.block b hb (fun e => hbc e.symm)
  have hgb : g ≠ b := by
    rcases hat with e | e
    · rintro rfl; exact hbc e
    · omega
  refine ⟨((h.below.trans ⟨hg.os, hg.tape, hg.output, hg.size, fun k hk => hg.block k (Nat.lt_of_lt_of_le hk h.below.size) (fun e => by have := (h.hl.lt k e.symm).1; omega)⟩).setCell h.hb _).setCell h.hb _, h.hb, (bset (bset (hblk.trans h.blk) 9 _) 8 _).trans rfl, ownsRow_kept h.hc fun j hj => kc j (mem_ob.2 hj), World.ownsRow_nil _ _ _ _,
    ?_, rowsAt_snoc (ownsRow_kept h.hr fun j hj => kr j (mem_ob.2 hj)) (rowsAt_kept h.rws fun j hj => kp j (.inr hj)), faultAt_kept h.flt fun j hj => kp j (.inl hj), ?_⟩
  · have := ownsRow_kept hown (W' := (w1.setCell ⟨b, 9, none⟩ (.slice (some ⟨g, 0, none⟩) (s.rows.length + 1) cap)).setCell ⟨b, 8, none⟩ (.slice none 0 0)) (fun j hj => (Below.heap_setCell _ ⟨b, 8, none⟩ _ j (show j ≠ b by simp only [Value.ownBlock, Option.some.injEq] at hj; omega)).trans (Below.heap_setCell w1 ⟨b, 9, none⟩ _ j (show j ≠ b by simp only [Value.ownBlock, Option.some.injEq] at hj; omega)))
    simpa using this
  · have hy : (Value.slice (some ⟨g, 0, none⟩) (s.rows.length + 1) cap).ownBlock = vl.ownBlock ∨ (Value.slice (some ⟨g, 0, none⟩) (s.rows.length + 1) cap).ownBlock = some W.heap.size := by
      rcases hat with e | e
      · exact .inl e.symm
      · exact .inr (by rw [e]; rfl)
    have := nd_new (p := b :: (ob vc ++ ob vr)) (q := fb fl ++ lv.flatMap ob) (x := vl.ownBlock) (by simpa [ob, List.append_assoc] using hd) hy (fun j hj => hlt j (by simp only [List.mem_cons, List.mem_append] at hj ⊢; rcases hj with (hj | hj | hj) | hj | hj <;> simp [hj]))
    have hp : (b :: (ob vc ++ ob vr) ++ (Value.ownBlock (.slice (some ⟨g, 0, none⟩) (s.rows.length + 1) cap)).toList ++ (fb fl ++ lv.flatMap ob)).Perm (b :: (ob vc ++ (ob (.slice none 0 0) ++ (ob (.slice (some ⟨g, 0, none⟩) (s.rows.length + 1) cap) ++ (fb fl ++ (lv ++ [vr]).flatMap ob))))) := by
      have e1 : ob (.slice none 0 0) = [] := rfl
      have e2 : ob (.slice (some ⟨g, 0, none⟩) (s.rows.length + 1) cap) = [g] := rfl
      have e3 : (Value.ownBlock (.slice (some ⟨g, 0, none⟩) (s.rows.length + 1) cap)).toList = [g] := rfl
      rw [e1, e2, e3]
      simp only [List.flatMap_append, List.flatMap_cons, List.flatMap_nil, List.append_nil, List.nil_append, List.cons_append, List.append_assoc]
      refine List.Perm.cons _ (List.Perm.append_left _ ?_)
      have := List.perm_append_comm (l₁ := ob vr) (l₂ := [g] ++ (fb fl ++ lv.flatMap ob))
      simpa only [List.append_assoc, List.cons_append, List.nil_append] using this
    exact hp.nodup_iff.1 (by simpa [List.append_assoc] using this)
theorem RD.set_fr {vc vr vl fl vc' vr' vl' fl' : Value} {lv lv' : List Value} {s' : RS} {k : Nat} {u : Value} (h : RD A W0 W b s vc vr vl fl lv) (h' : RD A W0 (W.setCell ⟨b, k, none⟩ u) b s' vc' vr' vl' fl' lv') (e1 : vc'.ownBlock = vc.ownBlock) (e2 : vr'.ownBlock = vr.ownBlock) (e3 : vl'.ownBlock = vl.ownBlock) : Fr b W (W.setCell ⟨b, k, none⟩ u) :=
  h.fr h' rfl rfl rfl (by rw [setSize]; exact Nat.le_refl _) (fun j hj hn _ _ _ => Below.heap_setCell W ⟨b, k, none⟩ _ j hn) (fun j hj => by rw [e1, e2, e3] at hj; exact .inl hj)
theorem RD.widen {vc vr vl fl : Value} {lv : List Value} (h : RD A W0 W b s vc vr vl fl lv) (h0 : s.count = 0) : RD A W0 (W.setCell ⟨b, 11, none⟩ (I s.row.length)) b s.widen vc vr vl fl lv := by
  rw [RS.widen, if_pos h0]
  exact h.set 11 _ _ rfl rfl rfl rfl rfl
theorem RD.drewN {vc vr vl fl : Value} {lv : List Value} (h : RD A W0 W b s vc vr vl fl lv) (n : Nat) : RD A W0 (W.drewN n) b s vc vr vl fl lv := h.kept ⟨rfl, rfl, rfl, Nat.le_refl _, fun _ _ => rfl⟩ (fun _ _ => rfl)
theorem Fr.drewN {u v : World} (h : Fr b u v) (n : Nat) : Fr b u (v.drewN n) := ⟨h.os, h.tape, h.output, h.size, h.keep, h.own⟩
theorem fr_app2 {vc vr vl fl vc' vr' vl' fl' : Value} {lv lv' : List Value} {s' : RS} {w1 w2 : World} {o : Obj} {v : Value} {g k k' : Nat} {u u' : Value} (h : RD A W0 W b s vc vr vl fl lv) (h2 : RD A W0 w2 b s' vc' vr' vl' fl' lv') (e2 : w2 = (w1.setCell ⟨b, k, none⟩ u).setCell ⟨b, k', none⟩ u')
    (hg : (W.alloc o).grownBy w1 v.ownBlock) (hv : ∀ j, v.ownBlock = some j → vc.ownBlock = some j ∨ vr.ownBlock = some j ∨ vl.ownBlock = some j) (hat : v.ownBlock = some g ∨ g = (W.alloc o).heap.size)
    (ho : ∀ j, (vc'.ownBlock = some j ∨ vr'.ownBlock = some j ∨ vl'.ownBlock = some j) → (vc.ownBlock = some j ∨ vr.ownBlock = some j ∨ vl.ownBlock = some j) ∨ j = g) : Fr b W w2 := by
  subst e2
  refine h.fr h2 hg.os hg.tape hg.output (by rw [setSize, setSize]; exact Nat.le_trans (by simp) hg.size) (fun j hj hn q1 q2 q3 => ?_) (fun j hj => ?_)
  · exact (Below.heap_setCell _ ⟨b, k', none⟩ _ j hn).trans ((Below.heap_setCell w1 ⟨b, k, none⟩ _ j hn).trans ((hg.block j (by simp; omega) (fun e => by rcases hv j e.symm with h1 | h1 | h1; exact q1 h1; exact q2 h1; exact q3 h1)).trans (Below.heap_alloc W o j hj)))
  · rcases ho j hj with h1 | rfl
    · exact .inl h1
    · rcases hat with h1 | h1
      · exact .inl (hv _ h1)
      · refine .inr ?_
        rw [h1]; simp
theorem RS.widen_eq (s : RS) : s.widen.row = s.row ∧ s.widen.count = s.count ∧ s.widen.rows = s.rows := by
  unfold RS.widen
  split <;> exact ⟨rfl, rfl, rfl⟩
set_option maxHeartbeats 4000000 in
set_option maxRecDepth 100000 in
/-- behind the width -/
theorem endRow_r (hF : SF W0 A) (l c : Nat) {N : Nat} (hB : s.Bd N) (hN : N ≤ 1099511627776) (hne : 0 < s.row.length) (hR : R A W0 W b s) : Does A W0 W b (s.endRow l c) 103 #[PT b, .agg #[I l, I c]] := by
  obtain ⟨vc, vr, vl, fl, lv, h⟩ := hR
  obtain ⟨i0, hi, hz0, hz1, hz2⟩ := info_parts info28
  have h1 := h.alloc (.cells #[I l, I c] 79)
  obtain ⟨_, _, _, _, _, _, _, _, c8, _, c10, c11, _⟩ := h.cells
  obtain ⟨_, _, _, _, _, _, _, _, _, _, _, f11, _⟩ := h.free
  have hlt := h.lt
  have HH := Lib.hid h
  have HB := Lib.hid hB
  obtain ⟨gr, cr, rfl, _⟩ := h.hr.form hne
  clear h hB
  by_cases h0 : s.count = 0
  have hc0 : ((s.count : Int) == 0) = true := by simp [h0]
  have H0 := Lib.hid h0
  clear h0
  go_enter Tryz.func103, Tryz.ntmps103
  go_wp2
  have h2 := (HH.out.widen H0.out).alloc (.cells #[I l, I c] 79)
  have hf2 : Fr b W ((W.setCell ⟨b, 11, none⟩ (I s.row.length)).alloc (.cells #[I l, I c] 79)) := HH.out.fr h2 rfl rfl rfl (by simp [setSize]) (fun j hj hn _ _ _ => (Below.heap_alloc _ _ j (by rw [setSize]; exact hj)).trans (Below.heap_setCell W ⟨b, 11, none⟩ _ j hn)) (fun j hj => .inl hj)
  have hx2 : ((W.setCell ⟨b, 11, none⟩ (I s.row.length)).alloc (.cells #[I l, I c] 79)).heap[W.heap.size]? = some (.cells #[I l, I c] 79 (0, 0)) := by
    have := heap_alloc_new (W.setCell ⟨b, 11, none⟩ (I s.row.length)) (.cells #[I l, I c] 79)
    rw [setSize] at this
    exact this
  obtain ⟨w2, hw2⟩ : ∃ w2, w2 = (W.setCell ⟨b, 11, none⟩ (I s.row.length)).alloc (.cells #[I l, I c] 79) := ⟨_, rfl⟩
  rw [← hw2]
  have H2 := Lib.hid (hw2 ▸ h2)
  have HF := Lib.hid (hw2 ▸ hf2)
  have HX := Lib.hid (hw2 ▸ hx2)
  clear hw2 h2 hf2 hx2
  rotate_left
  have hc0 : ((s.count : Int) == 0) = false := by simp; omega
  have H0 := Lib.hid h0
  clear h0
  go_enter Tryz.func103, Tryz.ntmps103
  go_wp2
  have h2 : RD A W0 (W.alloc (.cells #[I l, I c] 79)) b s.widen vc (.slice (some ⟨gr, 0, none⟩) s.row.length cr) vl fl lv := by rw [RS.widen, if_neg H0.out]; exact h1
  have hf2 : Fr b W (W.alloc (.cells #[I l, I c] 79)) := HH.out.fr h1 rfl rfl rfl (by simp) (fun j hj hn _ _ _ => Below.heap_alloc _ _ j hj) (fun j hj => .inl hj)
  have hx2 := heap_alloc_new W (.cells #[I l, I c] 79)
  obtain ⟨w2, hw2⟩ : ∃ w2, w2 = W.alloc (.cells #[I l, I c] 79) := ⟨_, rfl⟩
  rw [← hw2]
  have H2 := Lib.hid (hw2 ▸ h2)
  have HF := Lib.hid (hw2 ▸ hf2)
  have HX := Lib.hid (hw2 ▸ hx2)
  clear hw2 h2 hf2 hx2
  all_goals
    obtain ⟨e1, e2, e3⟩ := s.widen_eq
    obtain ⟨_, _, _, _, _, _, _, _, c8, c9, c10, c11, _⟩ := H2.out.cells
    obtain ⟨_, _, _, _, _, _, _, _, f8, f9, f10, f11, _⟩ := H2.out.free
    have hlt2 := H2.out.lt
    clear c10
    by_cases hw : s.widen.row.length = s.widen.width
    · have q : ((s.row.length : Int) != (s.widen.width : Int)) = false := by rw [← hw, e1]; simp
      have HW := Lib.hid hw
      have E1 := Lib.hid e1
      have E2 := Lib.hid e2
      have E3 := Lib.hid e3
      clear hw e1 e2 e3 hc0
      go_quiet (fail)
      have H3 := Lib.hid (H2.out.drewN nq)
      have HF3 := Lib.hid (HF.out.drewN nq)
      obtain ⟨w3, hw3⟩ : ∃ w3, w3 = w2.drewN nq := ⟨_, rfl⟩
      rw [← hw3]
      replace H3 := Lib.hid (hw3 ▸ H3.out)
      replace HF3 := Lib.hid (hw3 ▸ HF3.out)
      clear hw3 H2 HF HX c8 c9 c11 f8 f9 f10 f11 hlt2
      obtain ⟨_, _, _, _, _, _, _, _, c8, c9, c10, c11, _⟩ := H3.out.cells
      obtain ⟨_, _, _, _, _, _, _, _, f8, f9, f10, f11, _⟩ := H3.out.free
      have hlt3 := H3.out.lt
      have h0 := (H3.out.drew).alloc (.cells #[.slice (some ⟨gr, 0, none⟩) s.row.length cr] 28)
      have hz := HB.out.rows
      rw [← E3.out] at hz
      have hcn := HB.out.count
      rw [← E2.out] at hcn
      go_wp2_with fail
      go_region_law ((refine step_append_lies _ (by rfl) _ _ 30 (by rfl) W0.heap.size 28 i0 (.slice none 0 0) 1 24 Tryz.underlying30 hi hz0 hz1 hz2 rfl (by decide) vl s.widen.rows.length lv (by rfl) h0.hl ⟨w3.heap.size, 0, none⟩ 1 1 [.slice (some ⟨gr, 0, none⟩) s.row.length cr] (by rfl) rfl (World.news_of_block (cs := #[.slice (some ⟨gr, 0, none⟩) s.row.length cr]) (t := 28) (fr := (0, 0)) (heap_alloc_new w3.drew _)) (by simp [Value.oneCell']) (by omega) (by unfold maxLen; omega) (by omega) h0.below.size (w3.drew.alloc (.cells #[.slice (some ⟨gr, 0, none⟩) s.row.length cr] 28)).heap.size rfl ?_; intro g cap w1 hown1 hgrow hat hlt1; have H4 := Lib.hid (h0.appRows hgrow hat hown1); obtain ⟨e8, q8⟩ := h0.grown hgrow h0.ne_l 8; replace e8 := e8.trans (rfl : _ = some _); obtain ⟨e9, q9⟩ := h0.grown hgrow h0.ne_l 9; replace e9 := e9.trans (rfl : _ = some _); obtain ⟨e10, q10⟩ := h0.grown hgrow h0.ne_l 10; replace e10 := e10.trans (rfl : _ = some _); have HG := Lib.hid hgrow; have HA := Lib.hid hat; clear hown1 hgrow hat))
      all_goals
        have HF4 := Lib.hid (fr_app2 (g := g) H3.out.drew H4.out rfl HG.out (fun j hj => .inr (.inr hj)) HA.out (fun j hj => by rcases hj with hj | hj | hj; exact .inl (.inl hj); exact absurd hj (by simp [Value.ownBlock]); exact .inr (by simpa [Value.ownBlock] using hj.symm)))
        have H5 := Lib.hid (H4.out.set 10 (.int .i64 ((s.widen.count : Int) + 1)) { s.widen with rows := s.widen.rows ++ [s.widen.row], row := [], count := s.widen.count + 1 } rfl rfl rfl rfl rfl)
        have HF5 := Lib.hid (H4.out.set_fr H5.out rfl rfl rfl)
        have HT := Lib.hid (show Does A W0 _ b _ 34 #[PT b, .func (.func 35) #[PT b] #[], .func (.func 36) #[PT b] #[]] from turn_r .fresh (R.mk H5.out))
        clear h0
        go_wp2_with (go_at_call 34; (with_reducible refine HT.out.mono ?_); rintro e w6 ⟨rfl, hR6, hF6⟩)
        go_end0
        refine ⟨rfl, ?_, (((HF3.out.drew.trans HF4.out).trans HF5.out).trans hF6)⟩
        rw [RS.endRow, if_pos HW.out]
        exact hR6
    · have q : ((s.row.length : Int) != (s.widen.width : Int)) = true := by rw [e1] at hw; simp; omega
      have HW := Lib.hid hw
      have E1 := Lib.hid e1
      have E2 := Lib.hid e2
      have E3 := Lib.hid e3
      clear hw e1 e2 e3 hc0
      go_quiet (fail)
      have p0 : (w2.drewN nq).cell? ⟨W.heap.size, 0, none⟩ = some (I l) := (bcell HX.out 0).trans rfl
      have p1 : (w2.drewN nq).cell? ⟨W.heap.size, 1, none⟩ = some (I c) := (bcell HX.out 1).trans rfl
      have gE : (w2.drewN nq).cell? ⟨3, 0, none⟩ = some (errV A 8) := H2.out.gl hF 8 (.inl (by omega))
      have k8 : coded 8 := .inl (by omega)
      have HFl := Lib.hid (fail_r l c 8 k8 (R.mk (H2.out.drewN nq)))
      go_wp2_with (go_at_call 45; (with_reducible refine HFl.out.mono ?_); rintro e w6 ⟨rfl, hR6, hF6⟩)
      refine bodyPost_ret (results_none rfl _ _ _) rfl ?_
      refine ⟨rfl, ?_, ((HF.out.drewN nq).trans hF6)⟩
      rw [RS.endRow, if_neg HW.out]
      exact hR6
end Go.Proofs.YtappphffbnkloaaGreatDoor.Sht
