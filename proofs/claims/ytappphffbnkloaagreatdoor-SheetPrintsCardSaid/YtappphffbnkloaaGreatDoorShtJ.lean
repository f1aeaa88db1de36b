/- again, told, NewReader. -/
import Derived.Test.YtappphffbnkloaaGreatDoorShtH
import Derived.Test.YtappphffbnkloaaGreatDoorShtI
set_option linter.unusedVariables false
set_option linter.unusedSimpArgs false
namespace Go.Proofs.YtappphffbnkloaaGreatDoor.Sht
open Go Go.RowKit Go.Joins
attribute [local go_sem ↓] Go.wp_at_zero Go.wp_at_succ
variable {A : Nat → Addr} {W0 W : World} {b : Nat} {s : RS}
/-- errors.As's own variable -/
def ET (w : World) : Prop := w.cell? ⟨5, 0, none⟩ = some (.iface 152 (.agg #[hd 41]))
theorem ET.lt {w : World} (h : ET w) : 5 < w.heap.size := World.block_lt_of_cell? w _ h
theorem ET.below {w w' : World} (h : ET w) (k : Below w.heap.size w w') : ET w' := (k.cell (p := ⟨5, 0, none⟩) h.lt).trans h
theorem again_nil (w : World) : Calls Tryz.prog 38 #[.nilIface] w fun e w' => e = .returned .nilIface ∧ Below w.heap.size w w' := by
  go_enter Tryz.func38, Tryz.ntmps38
  go_wp2_with (go_at_call 25; (with_reducible refine (as_nil _ _).mono ?_); rintro e w' ⟨rfl, rfl⟩)
  go_ret
  exact ⟨rfl, (Below.refl _ _).alloc (Nat.le_refl _) _⟩
/-- errors.As at one variable: what it turns -/
structure AsDone (w : World) (t : Addr) (v : Value) (w' : World) : Prop where
  os : w'.os = w.os
  tape : w'.tape = w.tape
  output : w'.output = w.output
  size : w.heap.size ≤ w'.heap.size
  keep : ∀ j, j < w.heap.size → j ≠ t.block → w'.heap[j]? = w.heap[j]?
  cell : w'.cell? t = some v
theorem as_done (e b : Nat) (old : Value) (w : World) (hg : ET w) (ht0 : w.cell? ⟨b, 0, none⟩ = some old) (hf0 : w.frozen? ⟨b, 0, none⟩ = false) :
    Calls Tryz.prog 25 #[.iface 65 (PT e), .iface 67 (PT b)] w fun ev w' => ev = .returned (.bool true) ∧ AsDone w ⟨b, 0, none⟩ (PT e) w' := by
  refine (as_hit ⟨e, 0, none⟩ ⟨b, 0, none⟩ old w hg ht0 hf0).mono ?_
  rintro ev w' ⟨rfl, rfl⟩
  have hb : b < w.heap.size := World.block_lt_of_cell? w _ ht0
  refine ⟨rfl, rfl, rfl, rfl, by rw [setSize]; simp; omega, fun j hj hn => ?_, ?_⟩
  · rw [Below.heap_setCell _ ⟨b, 0, none⟩ _ j hn, Below.heap_alloc _ _ j (by simp; omega), Below.heap_alloc _ _ j (by simp; omega), Below.heap_alloc _ _ j (by simp; omega), Below.heap_alloc _ _ j hj]
  · refine World.cell?_setCell_same' _ _ _ ?_
    rw [World.cell?_alloc_lt _ _ ⟨b, 0, none⟩ (by simp; omega), World.cell?_alloc_lt _ _ ⟨b, 0, none⟩ (by simp; omega), World.cell?_alloc_lt _ _ ⟨b, 0, none⟩ (by simp; omega), World.cell?_alloc_lt _ _ ⟨b, 0, none⟩ hb, ht0]
    rfl
/-- a fault's copy -/
def Copied (w : World) (x y z : Value) (e : Ending) (w' : World) : Prop := ∃ g, w.heap.size ≤ g ∧ e = .returned (.iface 65 (PT g)) ∧ w'.heap[g]? = some (.cells #[x, y, z] 70 (0, 0)) ∧ Below w.heap.size w w'
set_option maxHeartbeats 4000000 in
set_option maxRecDepth 100000 in
theorem again_some (g : Nat) (x y : Nat) (a : Addr) (w : World) (hE : ET w) (hg : w.heap[g]? = some (.cells #[I x, I y, .iface 215 (.pointer (some a))] 70 (0, 0))) :
    Calls Tryz.prog 38 #[.iface 65 (PT g)] w (Copied w (I x) (I y) (.iface 215 (.pointer (some a)))) := by
  have hlt := blt hg
  have hE1 : (w.alloc (.cells #[.pointer none] 65)).cell? ⟨5, 0, none⟩ = some (.iface 152 (.agg #[hd 41])) := hE.below ((Below.refl _ _).alloc (Nat.le_refl _) _)
  have HA := Lib.hid (as_done g w.heap.size (.pointer none) (w.alloc (.cells #[.pointer none] 65)) hE1 (by simp) (by simp))
  have HG := Lib.hid hg
  clear hE1 hE hg
  go_enter Tryz.func38, Tryz.ntmps38
  go_wp2_with (go_at_call 25; (with_reducible refine HA.out.mono ?_); rintro e w1 ⟨rfl, hw1⟩; have H1 := Lib.hid hw1; clear hw1; have hq := H1.out.cell)
  have hbel : Below w.heap.size w w1 := ⟨H1.out.os, H1.out.tape, H1.out.output, Nat.le_trans (by simp) H1.out.size, fun k hk => (H1.out.keep k (by simp; omega) (by show k ≠ w.heap.size; omega)).trans (Below.heap_alloc w _ k hk)⟩
  have hb2 := (hbel.block g hlt).trans HG.out
  have z0 : w1.cell? ⟨g, 0, none⟩ = some (I x) := (bcell hb2 0).trans rfl
  have z1 : w1.cell? ⟨g, 1, none⟩ = some (I y) := (bcell hb2 1).trans rfl
  have z2 : w1.cell? ⟨g, 2, none⟩ = some (.iface 215 (.pointer (some a))) := (bcell hb2 2).trans rfl
  have HB := Lib.hid hbel
  clear hbel hb2
  go_still_tail 13, (by kernel_rfl)
  change wpList _ _ _ _ _ w1.drew
  go_wp2
  go_ret
  exact ⟨_, HB.out.size, rfl, heap_alloc_new w1.drew _, HB.out.drew.alloc HB.out.size _⟩
set_option maxHeartbeats 2000000 in
set_option maxRecDepth 100000 in
theorem told_any (v : Value) (hv : ∃ a n c, v = .slice a n c) (h9 : W.cell? ⟨b, 9, none⟩ = some v) (f9 : W.frozen? ⟨b, 9, none⟩ = false) :
    Calls Tryz.prog 37 #[PT b] W fun e w' => e = .returned v ∧ w' = W.setCell ⟨b, 9, none⟩ (.slice none 0 0) := by
  obtain ⟨a, n, c, rfl⟩ := hv
  go_enter Tryz.func37, Tryz.ntmps37
  go_wp2
  go_ret
  exact ⟨rfl, rfl⟩
/-- the rows that nobody was told of, told -/
theorem RD.told {vc vr vl fl : Value} {lv : List Value} (h : RD A W0 W b s vc vr vl fl lv) : RD A W0 (W.setCell ⟨b, 9, none⟩ (.slice none 0 0)) b { s with rows := [] } vc vr (.slice none 0 0) fl [] := by
  have hd := h.dis
  have hd' := hd
  simp only [List.nodup_cons, List.mem_append] at hd
  have far : ∀ j, j ≠ b → (W.setCell ⟨b, 9, none⟩ (.slice none 0 0)).heap[j]? = W.heap[j]? := fun j hj => Below.heap_setCell W ⟨b, 9, none⟩ _ j hj
  have ne : ∀ j, (j ∈ ob vc ∨ j ∈ ob vr ∨ j ∈ ob vl ∨ j ∈ fb fl ∨ j ∈ lv.flatMap ob) → j ≠ b := fun j hj e => hd.1 (e ▸ hj)
  refine ⟨h.below.setCell h.hb _, h.hb, (bset h.blk 9 _).trans rfl, ownsRow_kept h.hc fun j hj => far j (ne j (.inl (mem_ob.2 hj))), ownsRow_kept h.hr fun j hj => far j (ne j (.inr (.inl (mem_ob.2 hj)))),
    World.ownsRow_nil _ _ _ _, trivial, faultAt_kept h.flt fun j hj => far j (ne j (.inr (.inr (.inr (.inl hj))))), ?_⟩
  refine List.Nodup.sublist ?_ hd'
  simp only [ob, Value.ownBlock, Option.toList_none, List.nil_append, List.flatMap_nil, List.append_nil]
  refine List.Sublist.cons_cons _ (List.Sublist.append (List.Sublist.refl _) (List.Sublist.append (List.Sublist.refl _) ?_))
  exact (List.sublist_append_left _ _).trans (List.sublist_append_right _ _)
theorem RD.told_fr {vc vr vl fl : Value} {lv : List Value} (h : RD A W0 W b s vc vr vl fl lv) : Fr b W (W.setCell ⟨b, 9, none⟩ (.slice none 0 0)) :=
  h.fr h.told rfl rfl rfl (by rw [setSize]; exact Nat.le_refl _) (fun j hj hn _ _ _ => Below.heap_setCell W ⟨b, 9, none⟩ _ j hn) (fun j hj => by rcases hj with hj | hj | hj; exact .inl (.inl hj); exact .inl (.inr (.inl hj)); exact absurd hj (by simp [Value.ownBlock]))
/-- a reader to which nothing has come -/
theorem new_r (w : World) (A : Nat → Addr) : Calls Tryz.prog 7 #[] w fun e w' => e = .returned (PT w.heap.size) ∧ R A w w' w.heap.size RS.new ∧ Below w.heap.size w w' := by
  have H := Lib.hid (fun (W : World) (b : Nat) (v0 v1 : Value) h0 h1 f0 f1 => turn_any (W := W) (b := b) 35 36 v0 v1 h0 h1 f0 f1)
  go_enter Tryz.func7, Tryz.ntmps7
  go_wp2_with (go_at_call 34; (with_reducible refine (H.out _ _ _ _ (World.cell?_alloc_at _ _ _ _ rfl) (World.cell?_alloc_at _ _ _ _ rfl) ?_ ?_).mono ?_); go_simp; go_simp; rintro e w1 ⟨rfl, rfl⟩)
  go_ret
  exact ⟨rfl, ⟨_, _, _, _, [], (Below.refl _ _).alloc (Nat.le_refl _) _, Nat.le_refl _, heap_alloc_new w _, World.ownsRow_nil _ _ _ _, World.ownsRow_nil _ _ _ _, World.ownsRow_nil _ _ _ _, trivial, rfl, by simp [ob, fb, Value.ownBlock]⟩, (Below.refl _ _).alloc (Nat.le_refl _) _⟩
end Go.Proofs.YtappphffbnkloaaGreatDoor.Sht
