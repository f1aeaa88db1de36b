/- The reader's small methods, walked: turn, fail. -/
import Derived.Test.YtappphffbnkloaaGreatDoorShtW
import Derived.Laws.EntriesVeiled
set_option linter.unusedVariables false
set_option linter.unusedSimpArgs false
namespace Go.Proofs.YtappphffbnkloaaGreatDoor.Sht
open Go Go.RowKit
variable {A : Nat → Addr} {W0 W : World} {b : Nat} {s : RS}
abbrev Does (A : Nat → Addr) (W0 W : World) (b : Nat) (s' : RS) (f : FuncId) (args : Array Value) : Prop :=
  Calls Tryz.prog f args W fun e w' => e = .returned (.tuple #[]) ∧ R A W0 w' b s' ∧ Fr b W w'
set_option maxHeartbeats 1000000 in
theorem turn_any (F G : FuncId) (v0 v1 : Value) (h0 : W.cell? ⟨b, 0, none⟩ = some v0) (h1 : W.cell? ⟨b, 1, none⟩ = some v1) (f0 : W.frozen? ⟨b, 0, none⟩ = false) (f1 : W.frozen? ⟨b, 1, none⟩ = false) :
    Calls Tryz.prog 34 #[PT b, .func (.func F) #[PT b] #[], .func (.func G) #[PT b] #[]] W fun e w' =>
      e = .returned (.tuple #[]) ∧ w' = (W.setCell ⟨b, 0, none⟩ (.func (.func F) #[PT b] #[])).setCell ⟨b, 1, none⟩ (.func (.func G) #[PT b] #[]) := by
  go_enter Tryz.func34, Tryz.ntmps34
  go_wp2
  go_end0
  exact ⟨rfl, rfl⟩
theorem RD.turn {vc vr vl fl : Value} {lv : List Value} (h : RD A W0 W b s vc vr vl fl lv) (m : Md) :
    RD A W0 ((W.setCell ⟨b, 0, none⟩ (nx b m)).setCell ⟨b, 1, none⟩ (ov b m)) b (s.turn m) vc vr vl fl lv := by
  obtain ⟨below, hb, blk, hc, hr, hl, rws, flt, dis⟩ := h
  have hd := dis
  simp only [List.nodup_cons, List.mem_append] at hd
  have far : ∀ j, j ≠ b → ((W.setCell ⟨b, 0, none⟩ (nx b m)).setCell ⟨b, 1, none⟩ (ov b m)).heap[j]? = W.heap[j]? := fun j hj => (Below.heap_setCell _ ⟨b, 1, none⟩ _ j hj).trans (Below.heap_setCell W ⟨b, 0, none⟩ _ j hj)
  have ne : ∀ j, (j ∈ ob vc ∨ j ∈ ob vr ∨ j ∈ ob vl ∨ j ∈ fb fl ∨ j ∈ lv.flatMap ob) → j ≠ b := fun j hj e => hd.1 (e ▸ hj)
  exact ⟨(below.setCell hb _).setCell hb _, hb, (bset (bset blk 0 _) 1 _).trans rfl, ownsRow_kept hc fun j hj => far j (ne j (.inl (mem_ob.2 hj))), ownsRow_kept hr fun j hj => far j (ne j (.inr (.inl (mem_ob.2 hj)))),
    ownsRow_kept hl fun j hj => far j (ne j (.inr (.inr (.inl (mem_ob.2 hj))))), rowsAt_kept rws fun j hj => far j (ne j (.inr (.inr (.inr (.inr hj))))), faultAt_kept flt fun j hj => far j (ne j (.inr (.inr (.inr (.inl hj))))), dis⟩
theorem turn_r (m : Md) (hR : R A W0 W b s) : Does A W0 W b (s.turn m) 34 #[PT b, nx b m, ov b m] := by
  obtain ⟨vc, vr, vl, fl, lv, h⟩ := hR
  obtain ⟨c0, c1, _⟩ := h.cells
  obtain ⟨f0, f1, _⟩ := h.free
  have key : Calls Tryz.prog 34 #[PT b, nx b m, ov b m] W fun e w' => e = .returned (.tuple #[]) ∧ w' = (W.setCell ⟨b, 0, none⟩ (nx b m)).setCell ⟨b, 1, none⟩ (ov b m) := by
    cases m <;> exact turn_any _ _ _ _ c0 c1 f0 f1
  refine key.mono ?_
  rintro e w' ⟨rfl, rfl⟩
  refine ⟨rfl, ⟨vc, vr, vl, fl, lv, h.turn m⟩, h.fr (h.turn m) rfl rfl rfl (by rw [setSize, setSize]; exact Nat.le_refl _) (fun j hj hn _ _ _ => (Below.heap_setCell _ ⟨b, 1, none⟩ _ j hn).trans (Below.heap_setCell W ⟨b, 0, none⟩ _ j hn)) (fun j hj => .inl hj)⟩
set_option maxHeartbeats 1000000 in
theorem fail_any (l c : Nat) (a : Addr) (v : Value) (h : W.cell? ⟨b, 12, none⟩ = some v) (f : W.frozen? ⟨b, 12, none⟩ = false) (hb : b < W.heap.size) :
    Calls Tryz.prog 45 #[PT b, .agg #[I l, I c], .iface 215 (.pointer (some a))] W fun e w' =>
      e = .returned (.tuple #[]) ∧ w' = ((W.alloc (.cells #[I l, I c] 79)).alloc (.cells #[I l, I c, .iface 215 (.pointer (some a))] 70)).setCell ⟨b, 12, none⟩ (.iface 65 (PT (W.alloc (.cells #[I l, I c] 79)).heap.size)) := by
  go_enter Tryz.func45, Tryz.ntmps45
  go_wp2
  go_end0
  refine ⟨rfl, ?_⟩
  rw [World.setCell_alloc_past _ _ _ _ (by simp; omega), World.setCell_alloc_past _ _ _ _ hb]
  simp
theorem fail_r (l c e : Nat) (he : coded e) (hR : R A W0 W b s) : Does A W0 W b (s.fail l c e) 45 #[PT b, .agg #[I l, I c], errV A e] := by
  obtain ⟨vc, vr, vl, fl, lv, h⟩ := hR
  obtain ⟨_, _, _, _, _, _, _, _, _, _, _, _, c12⟩ := h.cells
  obtain ⟨_, _, _, _, _, _, _, _, _, _, _, _, f12⟩ := h.free
  refine (fail_any l c (A e) fl c12 f12 h.lt).mono ?_
  rintro e' w' ⟨rfl, rfl⟩
  have h1 := (h.alloc (.cells #[I l, I c] 79)).fault l c e he
  refine ⟨rfl, ⟨_, _, _, _, _, h1⟩, h.fr h1 rfl rfl rfl (by rw [setSize]; simp; omega) (fun j hj hn _ _ _ => ?_) (fun j hj => .inl hj)⟩
  rw [Below.heap_setCell _ ⟨b, 12, none⟩ _ j hn, Below.heap_alloc _ _ j (by simp; omega), Below.heap_alloc _ _ j hj]
end Go.Proofs.YtappphffbnkloaaGreatDoor.Sht
