-- joined out of the texts ShtH ShtJ ShtWhy ShtZ ShtK ShtL ShtO ShtQ ShtQp ShtPo ShtBd ShtAny ShtPa ShtPb ShtPd ShtSm ShtBk
import Derived.Test.YtappphffbnkloaaGreatDoorShtJb
import Derived.Test.YtappphffbnkloaaGreatDoorGSxf41
import Derived.Lib.ItoaMem
import Derived.Deep.DeepCutAuto
import Derived.Test.YtappphffbnkloaaGreatDoorShtJa
import Derived.Deep.RegionWith
import Derived.LoopTactic
import Derived.Lib.ConvBytes
import Derived.Laws.AppendOwnNone
import Derived.Maps.AppendAt
import Derived.Test.YtappphffbnkloaaGreatDoorProg
import Derived.WalkKit
import Derived.Below
import Derived.Lib.Builder
import Derived.Lib.Hide
import Derived.RegionTactic
import Derived.Shelf.Strings.Builder1
import Derived.Test.YtappphffbnkloaaGreatDoorShelf
import Derived.Test.YtappphffbnkloaaGreatDoorWWords
import Derived.Laws.RangeAny
import Derived.Laws.Runes
import Derived.Lib.IndexLaws
import Derived.Lib.IndexAny
import Derived.WalkSmall
import Derived.WalkMore
import Derived.Deep.QuietTactic
import Derived.Deep.LoopGhost
import Derived.BigQuiet
import Derived.IntWalk
import Derived.Lib.SplitLaws
import Derived.Lib.ReplaceLaws
import Derived.Lib.UnsafeStr
set_option linter.unusedVariables false
set_option linter.unusedSimpArgs false
namespace Go.Proofs.YtappphffbnkloaaGreatDoor.Sht
open Go Go.RowKit Go.Joins
attribute [local go_sem ↓] Go.wp_at_zero Go.wp_at_succ
variable {A : Nat → Addr} {W0 W : World} {b : Nat} {s : RS}
set_option maxHeartbeats 4000000 in
set_option maxRecDepth 100000 in
theorem start_r (hF : SF W0 A) (x : UInt8) {N : Nat} (hB : s.Bd N) (hN : N ≤ 1099511627776) (hR : R A W0 W b s) : Does A W0 W b (s.start x) 69 #[PT b, .int .u8 (x.toNat : Int)] := by
  by_cases h34 : x = 34
  · have q : ((x.toNat : Int) == 34) = true := byte_eq h34
    have e : s.start x = s.mark.turn .quoted := by rw [RS.start, if_pos h34]
    rw [e]
    obtain ⟨vc, vr, vl, fl, lv, h⟩ := hR
    obtain ⟨_, _, c2, c3, _, c5, c6, _⟩ := h.cells
    obtain ⟨_, _, _, _, _, f5, f6, _⟩ := h.free
    have HH := Lib.hid h
    have HT := Lib.hid (turn_fn (A := A) (W0 := W0) (b := b) .quoted _ _ rfl rfl)
    clear h h34 e hB
    go_enter Tryz.func69, Tryz.ntmps69
    go_wp2_with (go_at_call 34; (with_reducible refine (HT.out _ _ HH.out.mark.1).mono ?_); rintro e w1 ⟨rfl, hR1, hF1⟩)
    refine bodyPost_ret (results_none rfl _ _ _) rfl ?_
    exact ⟨rfl, hR1, HH.out.mark.2.trans hF1⟩
  · have q : ((x.toNat : Int) == 34) = false := byte_ne h34
    have e : s.start x = (s.turn .plain).plain x := by rw [RS.start, if_neg h34]
    rw [e]
    have HT := Lib.hid (turn_fn .plain _ _ rfl rfl W s hR)
    have HB := Lib.hid (hB.turn .plain)
    have HFF := Lib.hid hF
    clear hR hB h34 hF e
    go_enter Tryz.func69, Tryz.ntmps69
    go_wp2_with (first
      | (go_at_call 34; (with_reducible refine HT.out.mono ?_); rintro e w1 ⟨rfl, hR1, hF1⟩; have HP := Lib.hid (plain_r (N := N) HFF.out x HB.out hN hR1))
      | (go_at_call 88; (with_reducible refine HP.out.mono ?_); rintro e w2 ⟨rfl, hR2, hF2⟩))
    go_end0
    exact ⟨rfl, hR2, hF1.trans hF2⟩
set_option maxHeartbeats 4000000 in
set_option maxRecDepth 100000 in
theorem fresh_r (hF : SF W0 A) (x : UInt8) {N : Nat} (hB : s.Bd N) (hN : N ≤ 1099511627776) (hR : R A W0 W b s) : Does A W0 W b (s.fresh x) 35 #[PT b, .int .u8 (x.toNat : Int)] := by
  obtain ⟨c2, c3, _, _, gE⟩ := hR.atCells hF 7 (cod (by omega))
  replace gE : W.cell? ⟨10, 0, none⟩ = some (errV A 7) := gE
  have HL := Lib.hid (fail_r s.line s.col 7 (cod (by omega)) hR.drew)
  have HS := Lib.hid (start_r hF x hB hN hR)
  obtain ⟨_, _, _, _, _, h⟩ := hR
  obtain ⟨_, _, _, _, _, _, _, _, _, _, c10, _⟩ := h.cells
  clear h hB
  by_cases h0 : s.count = 4096
  · have q : ((s.count : Int) == 4096) = true := by simp [h0]
    have e : s.fresh x = s.fail s.line s.col 7 := by rw [RS.fresh, if_pos h0]
    rw [e]
    clear h0 e
    go_enter Tryz.func35, Tryz.ntmps35
    go_wp2
    go_still_tail 6, (by kernel_rfl)
    change wpList _ _ _ _ _ W.drew
    go_wp2_with (go_at_call 45; (with_reducible refine HL.out.mono ?_); rintro e w1 ⟨rfl, hR1, hF1⟩)
    refine bodyPost_ret (results_none rfl _ _ _) rfl ?_
    exact ⟨rfl, hR1, (Sht.Fr.refl b _).drew.trans hF1⟩
  · have q : ((s.count : Int) == 4096) = false := by simp; omega
    have e : s.fresh x = s.start x := by rw [RS.fresh, if_neg h0]
    rw [e]
    clear h0 e
    go_enter Tryz.func35, Tryz.ntmps35
    go_wp2_with (go_at_call 69; (with_reducible refine HS.out.mono ?_); rintro e w1 ⟨rfl, hR1, hF1⟩)
    go_end0
    exact ⟨rfl, hR1, hF1⟩
theorem RS.Bd.endCell {N : Nat} (h : s.Bd N) : s.endCell.Bd (N + 1) :=
  ⟨Nat.le_succ_of_le h.line, Nat.le_succ_of_le h.col, Nat.le_succ_of_le h.all, Nat.le_succ_of_le h.ml, Nat.le_succ_of_le h.mc, Nat.zero_le _, by rw [endCell_row]; have := h.row; omega, Nat.le_succ_of_le h.rows, Nat.le_succ_of_le h.count, Nat.le_succ_of_le h.width⟩
set_option maxHeartbeats 4000000 in
set_option maxRecDepth 100000 in
theorem cut_r (hF : SF W0 A) {N : Nat} (hB : s.Bd N) (hN : N + 1 ≤ 1099511627776) (hR : R A W0 W b s) : Does A W0 W b (s.endCell.endRow s.line s.col) 89 #[PT b] := by
  have HE := Lib.hid (endCell_r hF hB (Nat.le_of_succ_le hN) hR)
  have HB := Lib.hid hB.endCell
  have HFF := Lib.hid hF
  clear hR hB hF
  go_enter Tryz.func89, Tryz.ntmps89
  go_wp2_with (first
    | (go_at_call 102; (with_reducible refine HE.out.mono ?_); rintro e w1 ⟨rfl, hR1, hF1⟩; obtain ⟨c2, c3, _⟩ := hR1.atCells HFF.out 7 (cod (by omega)); have HR := Lib.hid (endRow_r HFF.out s.endCell.line s.endCell.col HB.out hN (by rw [endCell_row]; omega) hR1); have HF := Lib.hid hF1; clear hR1 hF1)
    | (go_at_call 103; (with_reducible refine HR.out.mono ?_); rintro e w2 ⟨rfl, hR2, hF2⟩))
  go_end0
  exact ⟨rfl, hR2, HF.out.trans hF2⟩
set_option maxHeartbeats 4000000 in
set_option maxRecDepth 100000 in
theorem opened_r (hF : SF W0 A) (hR : R A W0 W b s) : Does A W0 W b (s.fail s.ml s.mc 1) 87 #[PT b] := by
  obtain ⟨_, _, c5, c6, gE⟩ := hR.atCells hF 1 (cod (by omega))
  replace gE : W.cell? ⟨2, 0, none⟩ = some (errV A 1) := gE
  have HL := Lib.hid (fail_r s.ml s.mc 1 (cod (by omega)) hR.drew)
  clear hR
  go_enter Tryz.func87, Tryz.ntmps87
  go_wp2_with fail
  go_still_tail 6, (by kernel_rfl)
  change wpList _ _ _ _ _ W.drew
  go_wp2_with (go_at_call 45; (with_reducible refine HL.out.mono ?_); rintro e w1 ⟨rfl, hR1, hF1⟩)
  go_end0
  exact ⟨rfl, hR1, (Sht.Fr.refl b _).drew.trans hF1⟩
set_option maxHeartbeats 4000000 in
set_option maxRecDepth 100000 in
theorem alone_r (hF : SF W0 A) (hR : R A W0 W b s) : Does A W0 W b (s.fail s.ml s.mc 3) 113 #[PT b] := by
  obtain ⟨_, _, c5, c6, gE⟩ := hR.atCells hF 3 (cod (by omega))
  replace gE : W.cell? ⟨1, 0, none⟩ = some (errV A 3) := gE
  have HL := Lib.hid (fail_r s.ml s.mc 3 (cod (by omega)) hR.drew)
  clear hR
  go_enter Tryz.func113, Tryz.ntmps113
  go_wp2_with fail
  go_still_tail 6, (by kernel_rfl)
  change wpList _ _ _ _ _ W.drew
  go_wp2_with (go_at_call 45; (with_reducible refine HL.out.mono ?_); rintro e w1 ⟨rfl, hR1, hF1⟩)
  go_end0
  exact ⟨rfl, hR1, (Sht.Fr.refl b _).drew.trans hF1⟩
set_option maxHeartbeats 4000000 in
set_option maxRecDepth 100000 in
theorem nothing_r (hR : R A W0 W b s) : Does A W0 W b s 36 #[PT b] := by
  go_enter Tryz.func36, Tryz.ntmps36
  go_wp2
  go_end0
  exact ⟨rfl, hR, Sht.Fr.refl b _⟩
theorem enters {f : FuncId} {fn : Func} (hf : Tryz.prog.funcs[f]? = some fn) (hn : (fn.name == "runtime.NumGoroutine") = false) (hb : fn.body.isNone = false) (args : Array Value) (w : World) : (callFunc f args).run Tryz.prog w = .ok (.enter f args) w := by
  have h1 : fn.name ≠ "runtime.NumGoroutine" := by simpa using hn
  have h2 : fn.body ≠ none := by intro e; rw [e] at hb; cases hb
  simp [callFunc, hf, h1, h2]
def Enters (f : FuncId) : Prop := ∀ (args : Array Value) (w : World), (callFunc f args).run Tryz.prog w = .ok (.enter f args) w
/-- whatever the state: the next byte -/
theorem next_r (hF : SF W0 A) (x : UInt8) {N : Nat} (hB : s.Bd N) (hN : N ≤ 1099511627776) (hne : s.md = .back → 0 < s.row.length) (hR : R A W0 W b s) :
    ∃ F, nx b s.md = .func (.func F) #[PT b] #[] ∧ Enters F ∧ Does A W0 W b (s.next x) F #[PT b, .int .u8 (x.toNat : Int)] := by
  unfold RS.next
  cases hm : s.md with
  | fresh => exact ⟨_, rfl, enters Tryz.func35 (by kernel_rfl) (by kernel_rfl), fresh_r hF x hB hN hR⟩
  | start => exact ⟨_, rfl, enters Tryz.func69 (by kernel_rfl) (by kernel_rfl), start_r hF x hB hN hR⟩
  | plain => exact ⟨_, rfl, enters Tryz.func88 (by kernel_rfl) (by kernel_rfl), plain_r hF x hB hN hR⟩
  | quoted => exact ⟨_, rfl, enters Tryz.func86 (by kernel_rfl) (by kernel_rfl), quoted_r hF x hB hN hR⟩
  | closed => exact ⟨_, rfl, enters Tryz.func98 (by kernel_rfl) (by kernel_rfl), closed_r hF x hB hN hR⟩
  | back => exact ⟨_, rfl, enters Tryz.func112 (by kernel_rfl) (by kernel_rfl), back_r hF x hB hN (hne hm) hR⟩
theorem over_r (hF : SF W0 A) {N : Nat} (hB : s.Bd N) (hN : N + 1 ≤ 1099511627776) (hR : R A W0 W b s) :
    ∃ F, ov b s.md = .func (.func F) #[PT b] #[] ∧ Enters F ∧ Does A W0 W b s.over F #[PT b] := by
  unfold RS.over
  cases hm : s.md with
  | fresh => exact ⟨_, rfl, enters Tryz.func36 (by kernel_rfl) (by kernel_rfl), nothing_r hR⟩
  | start => exact ⟨_, rfl, enters Tryz.func89 (by kernel_rfl) (by kernel_rfl), cut_r hF hB hN hR⟩
  | plain => exact ⟨_, rfl, enters Tryz.func89 (by kernel_rfl) (by kernel_rfl), cut_r hF hB hN hR⟩
  | quoted => exact ⟨_, rfl, enters Tryz.func87 (by kernel_rfl) (by kernel_rfl), opened_r hF hR⟩
  | closed => exact ⟨_, rfl, enters Tryz.func89 (by kernel_rfl) (by kernel_rfl), cut_r hF hB hN hR⟩
  | back => exact ⟨_, rfl, enters Tryz.func113 (by kernel_rfl) (by kernel_rfl), alone_r hF hR⟩
end Go.Proofs.YtappphffbnkloaaGreatDoor.Sht
set_option linter.unusedVariables false
set_option linter.unusedSimpArgs false
namespace Go.Proofs.YtappphffbnkloaaGreatDoor.Sht
open Go Go.RowKit Go.Joins
attribute [local go_sem ↓] Go.wp_at_zero Go.wp_at_succ
variable {A : Nat → Addr} {W0 W : World} {b : Nat} {s : RS}
/-- errors.As's own variable -/
def ET (w : World) : Prop := w.cell? ⟨5, 0, none⟩ = some (.iface 152 (.agg #[hd 41]))
theorem ET.lt {w : World} (h : ET w) : 5 < w.heap.size := World.block_lt_of_cell? w _ h
theorem ET.below {w w' : World} (h : ET w) (k : Below w.heap.size w w') : ET w' := (k.cell (p := ⟨5, 0, none⟩) h.lt).trans h
theorem again_nil (w : World) : Calls Tryz.prog 38 #[.nilIface] w fun e w' => e = .returned .nilIface ∧ Below w.heap.size w w' := by
  go_enter Tryz.func38, Tryz.ntmps38
  go_wp2_with (go_at_call 25; (with_reducible refine (as_nil _ _).mono ?_); rintro e w' ⟨rfl, rfl⟩)
  go_ret
  exact ⟨rfl, (Below.refl _ _).alloc (Nat.le_refl _) _⟩
/-- errors.As at one variable: what it turns -/
structure AsDone (w : World) (t : Addr) (v : Value) (w' : World) : Prop where
  os : w'.os = w.os
  tape : w'.tape = w.tape
  output : w'.output = w.output
  size : w.heap.size ≤ w'.heap.size
  keep : ∀ j, j < w.heap.size → j ≠ t.block → w'.heap[j]? = w.heap[j]?
  cell : w'.cell? t = some v
theorem as_done (e b : Nat) (old : Value) (w : World) (hg : ET w) (ht0 : w.cell? ⟨b, 0, none⟩ = some old) (hf0 : w.frozen? ⟨b, 0, none⟩ = false) :
    Calls Tryz.prog 25 #[.iface 65 (PT e), .iface 67 (PT b)] w fun ev w' => ev = .returned (.bool true) ∧ AsDone w ⟨b, 0, none⟩ (PT e) w' := by
  refine (as_hit ⟨e, 0, none⟩ ⟨b, 0, none⟩ old w hg ht0 hf0).mono ?_
  rintro ev w' ⟨rfl, rfl⟩
  have hb : b < w.heap.size := World.block_lt_of_cell? w _ ht0
  refine ⟨rfl, rfl, rfl, rfl, by rw [setSize]; simp; omega, fun j hj hn => ?_, ?_⟩
  · rw [Below.heap_setCell _ ⟨b, 0, none⟩ _ j hn, Below.heap_alloc _ _ j (by simp; omega), Below.heap_alloc _ _ j (by simp; omega), Below.heap_alloc _ _ j (by simp; omega), Below.heap_alloc _ _ j hj]
  · refine World.cell?_setCell_same' _ _ _ ?_
    rw [World.cell?_alloc_lt _ _ ⟨b, 0, none⟩ (by simp; omega), World.cell?_alloc_lt _ _ ⟨b, 0, none⟩ (by simp; omega), World.cell?_alloc_lt _ _ ⟨b, 0, none⟩ (by simp; omega), World.cell?_alloc_lt _ _ ⟨b, 0, none⟩ hb, ht0]
    rfl
/-- a fault's copy -/
def Copied (w : World) (x y z : Value) (e : Ending) (w' : World) : Prop := ∃ g, w.heap.size ≤ g ∧ e = .returned (.iface 65 (PT g)) ∧ w'.heap[g]? = some (.cells #[x, y, z] 70 (0, 0)) ∧ Below w.heap.size w w'
set_option maxHeartbeats 4000000 in
set_option maxRecDepth 100000 in
theorem again_some (g : Nat) (x y : Nat) (a : Addr) (w : World) (hE : ET w) (hg : w.heap[g]? = some (.cells #[I x, I y, .iface 215 (.pointer (some a))] 70 (0, 0))) :
    Calls Tryz.prog 38 #[.iface 65 (PT g)] w (Copied w (I x) (I y) (.iface 215 (.pointer (some a)))) := by
  have hlt := blt hg
  have hE1 : (w.alloc (.cells #[.pointer none] 65)).cell? ⟨5, 0, none⟩ = some (.iface 152 (.agg #[hd 41])) := hE.below ((Below.refl _ _).alloc (Nat.le_refl _) _)
  have HA := Lib.hid (as_done g w.heap.size (.pointer none) (w.alloc (.cells #[.pointer none] 65)) hE1 (by simp) (by simp))
  have HG := Lib.hid hg
  clear hE1 hE hg
  go_enter Tryz.func38, Tryz.ntmps38
  go_wp2_with (go_at_call 25; (with_reducible refine HA.out.mono ?_); rintro e w1 ⟨rfl, hw1⟩; have H1 := Lib.hid hw1; clear hw1; have hq := H1.out.cell)
  have hbel : Below w.heap.size w w1 := ⟨H1.out.os, H1.out.tape, H1.out.output, Nat.le_trans (by simp) H1.out.size, fun k hk => (H1.out.keep k (by simp; omega) (by show k ≠ w.heap.size; omega)).trans (Below.heap_alloc w _ k hk)⟩
  have hb2 := (hbel.block g hlt).trans HG.out
  have z0 : w1.cell? ⟨g, 0, none⟩ = some (I x) := (bcell hb2 0).trans rfl
  have z1 : w1.cell? ⟨g, 1, none⟩ = some (I y) := (bcell hb2 1).trans rfl
  have z2 : w1.cell? ⟨g, 2, none⟩ = some (.iface 215 (.pointer (some a))) := (bcell hb2 2).trans rfl
  have HB := Lib.hid hbel
  clear hbel hb2
  go_still_tail 13, (by kernel_rfl)
  change wpList _ _ _ _ _ w1.drew
  go_wp2
  go_ret
  exact ⟨_, HB.out.size, rfl, heap_alloc_new w1.drew _, HB.out.drew.alloc HB.out.size _⟩
set_option maxHeartbeats 2000000 in
set_option maxRecDepth 100000 in
theorem told_any (v : Value) (hv : ∃ a n c, v = .slice a n c) (h9 : W.cell? ⟨b, 9, none⟩ = some v) (f9 : W.frozen? ⟨b, 9, none⟩ = false) :
    Calls Tryz.prog 37 #[PT b] W fun e w' => e = .returned v ∧ w' = W.setCell ⟨b, 9, none⟩ (.slice none 0 0) := by
  obtain ⟨a, n, c, rfl⟩ := hv
  go_enter Tryz.func37, Tryz.ntmps37
  go_wp2
  go_ret
  exact ⟨rfl, rfl⟩
/-- the rows that nobody was told of, told -/
theorem RD.told {vc vr vl fl : Value} {lv : List Value} (h : RD A W0 W b s vc vr vl fl lv) : RD A W0 (W.setCell ⟨b, 9, none⟩ (.slice none 0 0)) b { s with rows := [] } vc vr (.slice none 0 0) fl [] := by
  have hd := h.dis
  have hd' := hd
  simp only [List.nodup_cons, List.mem_append] at hd
  have far : ∀ j, j ≠ b → (W.setCell ⟨b, 9, none⟩ (.slice none 0 0)).heap[j]? = W.heap[j]? := fun j hj => Below.heap_setCell W ⟨b, 9, none⟩ _ j hj
  have ne : ∀ j, (j ∈ ob vc ∨ j ∈ ob vr ∨ j ∈ ob vl ∨ j ∈ fb fl ∨ j ∈ lv.flatMap ob) → j ≠ b := fun j hj e => hd.1 (e ▸ hj)
  refine ⟨h.below.setCell h.hb _, h.hb, (bset h.blk 9 _).trans rfl, ownsRow_kept h.hc fun j hj => far j (ne j (.inl (mem_ob.2 hj))), ownsRow_kept h.hr fun j hj => far j (ne j (.inr (.inl (mem_ob.2 hj)))),
    World.ownsRow_nil _ _ _ _, trivial, faultAt_kept h.flt fun j hj => far j (ne j (.inr (.inr (.inr (.inl hj))))), ?_⟩
  refine List.Nodup.sublist ?_ hd'
  simp only [ob, Value.ownBlock, Option.toList_none, List.nil_append, List.flatMap_nil, List.append_nil]
  refine List.Sublist.cons_cons _ (List.Sublist.append (List.Sublist.refl _) (List.Sublist.append (List.Sublist.refl _) ?_))
  exact (List.sublist_append_left _ _).trans (List.sublist_append_right _ _)
theorem RD.told_fr {vc vr vl fl : Value} {lv : List Value} (h : RD A W0 W b s vc vr vl fl lv) : Fr b W (W.setCell ⟨b, 9, none⟩ (.slice none 0 0)) :=
  h.fr h.told rfl rfl rfl (by rw [setSize]; exact Nat.le_refl _) (fun j hj hn _ _ _ => Below.heap_setCell W ⟨b, 9, none⟩ _ j hn) (fun j hj => by rcases hj with hj | hj | hj; exact .inl (.inl hj); exact .inl (.inr (.inl hj)); exact absurd hj (by simp [Value.ownBlock])) (fun j hj => by simp at hj)
/-- a reader to which nothing has come -/
theorem new_r (w : World) (A : Nat → Addr) : Calls Tryz.prog 7 #[] w fun e w' => e = .returned (PT w.heap.size) ∧ R A w w' w.heap.size RS.new ∧ Below w.heap.size w w' := by
  have H := Lib.hid (fun (W : World) (b : Nat) (v0 v1 : Value) h0 h1 f0 f1 => turn_any (W := W) (b := b) 35 36 v0 v1 h0 h1 f0 f1)
  go_enter Tryz.func7, Tryz.ntmps7
  go_wp2_with (go_at_call 34; (with_reducible refine (H.out _ _ _ _ (World.cell?_alloc_at _ _ _ _ rfl) (World.cell?_alloc_at _ _ _ _ rfl) ?_ ?_).mono ?_); go_simp; go_simp; rintro e w1 ⟨rfl, rfl⟩)
  go_ret
  exact ⟨rfl, ⟨_, _, _, _, [], (Below.refl _ _).alloc (Nat.le_refl _) _, Nat.le_refl _, heap_alloc_new w _, World.ownsRow_nil _ _ _ _, World.ownsRow_nil _ _ _ _, World.ownsRow_nil _ _ _ _, trivial, rfl, by simp [ob, fb, Value.ownBlock]⟩, (Below.refl _ _).alloc (Nat.le_refl _) _⟩
end Go.Proofs.YtappphffbnkloaaGreatDoor.Sht
set_option linter.unusedVariables false
set_option linter.unusedSimpArgs false
namespace Go.Proofs.YtappphffbnkloaaGreatDoor.Sht
open Go Go.RowKit Go.Extern.Stop Go.Stop Go.Extern
theorem valueOfPW (t : Addr) (w : World) : (ReflectliteValue.unpack (.iface 91 (.pointer (some t)))).run Tryz.prog w
    = .ok (.agg #[hd 91, .pointer (some ⟨w.heap.size, 0, none⟩), .int .u64 150]) (w.alloc (.cells #[.pointer (some t)] 91)) := by kernel_rfl
theorem typePW (a : Addr) (w : World) : (ReflectliteValue.methodAny (ReflectliteValue.valueError "reflectlite.Value.Type" 0) (fun t _ _ _ => ReflectliteType.toType t) #[.agg #[hd 91, .pointer (some a), .int .u64 150]]).run Tryz.prog w
    = .ok (.iface 152 (.agg #[hd 91])) w := by kernel_rfl
theorem kindPW (w : World) : ((ReflectliteType.abiMethod fun t => (fun a : Nat => Value.int IntKind.u8 (a : Int)) <$> Rtype.kind t) #[hd 91]).run Tryz.prog w = .ok (.int .u8 22) w := by kernel_rfl
theorem kindW (w : World) : ((ReflectliteType.abiMethod fun t => (fun a : Nat => Value.int IntKind.u8 (a : Int)) <$> Rtype.kind t) #[hd 74]).run Tryz.prog w = .ok (.int .u8 22) w := by kernel_rfl
theorem partsPW (a : Addr) (w : World) : (ReflectliteValue.parts (.agg #[hd 91, .pointer (some a), .int .u64 150])).run Tryz.prog w = .ok (some (91, a, 150)) w := by kernel_rfl
theorem isNilPW (a p : Addr) (W : World) (ha : W.cell? a = some (.pointer (some p))) :
    (ReflectliteValue.method (ReflectliteValue.valueError "reflectlite.Value.IsNil" 0) ReflectliteValue.isNil #[.agg #[hd 91, .pointer (some a), .int .u64 150]]).run Tryz.prog W = .ok (.bool false) W := by
  rw [rlm]
  simp only [Sem.run_bind, partsPW, Result.andThen]
  simp [ReflectliteValue.isNil, loadVar, isAgg, underlying, Tryz.underlying91, ha, Result.andThen]
theorem elemPW (w : World) : (ReflectliteType.method ReflectliteType.elem #[.agg #[hd 91]]).run Tryz.prog w = .ok (.iface 152 (.agg #[hd 74])) w := by kernel_rfl
theorem implementsW (w : World) : (ReflectliteType.relation "Implements" ReflectliteType.implements_ #[.agg #[hd 74], .iface 152 (.agg #[hd 41])]).run Tryz.prog w = .ok (.bool true) w := by kernel_rfl
theorem notF (w : World) : (ReflectliteType.relation "AssignableTo" ReflectliteType.assignableTo #[.agg #[hd 65], .iface 152 (.agg #[hd 74])]).run Tryz.prog w = .ok (.bool false) w := by kernel_rfl
theorem notE (w : World) : (ReflectliteType.relation "AssignableTo" ReflectliteType.assignableTo #[.agg #[hd 215], .iface 152 (.agg #[hd 74])]).run Tryz.prog w = .ok (.bool false) w := by kernel_rfl
theorem noAsF (v : Value) (xT : TypeId) (w : World) : (Instr.typeAssert (.iface 65 v) xT 156 true).run Tryz.prog w = .ok (.tuple #[.nilIface, .bool false]) w := run_typeAssert_lacksB Tryz.underlying156 (by kernel_rfl) (by kernel_rfl) v xT w
theorem noAsE (v : Value) (xT : TypeId) (w : World) : (Instr.typeAssert (.iface 215 v) xT 156 true).run Tryz.prog w = .ok (.tuple #[.nilIface, .bool false]) w := run_typeAssert_lacksB Tryz.underlying156 (by kernel_rfl) (by kernel_rfl) v xT w
abbrev valW (w : World) : Array Value := #[hd 91, .pointer (some ⟨w.heap.size, 0, none⟩), .int .u64 150]
set_option maxHeartbeats 8000000 in
set_option maxRecDepth 100000 in
theorem as_why (g b : Nat) (x y : Value) (a : Addr) (w : World) (hg : ET w) (hf : w.heap[g]? = some (.cells #[x, y, .iface 215 (.pointer (some a))] 70 (0, 0))) :
    Calls Tryz.prog 25 #[.iface 65 (PT g), .iface 91 (PT b)] w fun ev w' => ev = .returned (.bool false) ∧ Below w.heap.size w w' := by
  have h6 := @run_callFunc_extern Tryz.prog 62 _ (fun args => ReflectliteValue.unpack (args.getD 0 (.tuple #[]))) Tryz.func62 (by kernel_rfl) (by kernel_rfl) (by kernel_rfl) (by kernel_rfl)
  have h7 := @run_callFunc_extern Tryz.prog 63 _ (ReflectliteValue.methodAny (ReflectliteValue.valueError "reflectlite.Value.Type" 0) (fun t _ _ _ => ReflectliteType.toType t)) Tryz.func63 (by kernel_rfl) (by kernel_rfl) (by kernel_rfl) (by kernel_rfl)
  have h8 := @run_callFunc_extern Tryz.prog 64 _ (ReflectliteValue.method (ReflectliteValue.valueError "reflectlite.Value.IsNil" 0) ReflectliteValue.isNil) Tryz.func64 (by kernel_rfl) (by kernel_rfl) (by kernel_rfl) (by kernel_rfl)
  have h27 := @run_callFunc_extern Tryz.prog 158 _ (ReflectliteType.abiMethod fun t => do pure (.int .u8 (← Rtype.kind t))) Tryz.func158 (by kernel_rfl) (by kernel_rfl) (by kernel_rfl) (by kernel_rfl)
  have h37 := @run_callFunc_extern Tryz.prog 168 _ (ReflectliteType.method ReflectliteType.elem) Tryz.func168 (by kernel_rfl) (by kernel_rfl) (by kernel_rfl) (by kernel_rfl)
  have h38 := @run_callFunc_extern Tryz.prog 169 _ (ReflectliteType.relation "Implements" ReflectliteType.implements_) Tryz.func169 (by kernel_rfl) (by kernel_rfl) (by kernel_rfl) (by kernel_rfl)
  have h10 := @run_callFunc_extern Tryz.prog 66 _ ReflectliteType.typeOf Tryz.func66 (by kernel_rfl) (by kernel_rfl) (by kernel_rfl) (by kernel_rfl)
  have h35 := @run_callFunc_extern Tryz.prog 166 _ (ReflectliteType.relation "AssignableTo" ReflectliteType.assignableTo) Tryz.func166 (by kernel_rfl) (by kernel_rfl) (by kernel_rfl) (by kernel_rfl)
  have tO := typeOfF
  have tE := isTypeOf
  have mA := methodAssignableTo
  have a1 := notF
  have a2 := notE
  have f6 := valueOfPW
  have f7 := typePW
  have mK := methodKind
  have mE := methodElem
  have mI := methodImplements
  have k27 := kindPW
  have k25 := kindW
  have e27 := elemPW
  have i25 := implementsW
  have n1 := noAsF
  have n2 := noAsE
  have uF := unwrapF
  have mU := methodUnwrapF
  have uE := noUnwrapE
  have vE := noUnwrapsE
  have hlt : 5 < w.heap.size := hg.lt
  have hgl := blt hf
  have n8 := isNilPW ⟨w.heap.size, 0, none⟩ ⟨b, 0, none⟩ ((w.alloc (.cells #[PT b] 91)).alloc (.cells (valW w) 115)) (by simp)
  have hg2 : ((w.alloc (.cells #[PT b] 91)).alloc (.cells (valW w) 115)).cell? ⟨5, 0, none⟩ = some (.iface 152 (.agg #[hd 41])) := by
    rw [World.cell?_alloc_lt _ _ ⟨5, 0, none⟩ (by simp; omega), World.cell?_alloc_lt _ _ ⟨5, 0, none⟩ hlt]; exact hg
  have c2 : w.cell? ⟨g, 2, none⟩ = some (.iface 215 (.pointer (some a))) := (bcell hf 2).trans rfl
  have c3 : (((w.alloc (.cells #[PT b] 91)).alloc (.cells (valW w) 115)).alloc (.cells (valW w) 115)).cell? ⟨g, 2, none⟩ = some (.iface 215 (.pointer (some a))) := by
    rw [World.cell?_alloc_lt _ _ ⟨g, 2, none⟩ (by simp; omega), World.cell?_alloc_lt _ _ ⟨g, 2, none⟩ (by simp; omega), World.cell?_alloc_lt _ _ ⟨g, 2, none⟩ hgl]; exact c2
  clear hf hg c2
  go_enter Tryz.func25, Tryz.ntmps25
  go_wp2
  refine wp_loop_rounds 2 ?_
  rw [rounds_succ]
  go_wp2
  rw [rounds_succ]
  go_wp2
  go_ret
  exact ⟨rfl, (((Below.refl _ _).alloc (Nat.le_refl _) _).alloc (by simp) _).alloc (by simp; omega) _⟩
end Go.Proofs.YtappphffbnkloaaGreatDoor.Sht
set_option linter.unusedVariables false
set_option linter.unusedSimpArgs false
namespace Go.Proofs.YtappphffbnkloaaGreatDoor.Sht
open Go Go.RowKit Go.Proofs.YtappphffbnkloaaGreatDoorW.PrintWords Go.Proofs.YtappphffbnkloaaGreatDoor.GS
attribute [local go_sem ↓] Go.wp_at_zero Go.wp_at_succ
/-- the reference's fault, as a value -/
abbrev fv (code line col pos why : Int) : Value := .agg #[.int .i64 code, .int .i64 line, .int .i64 col, .int .i64 pos, .int .i64 why]
set_option maxHeartbeats 2000000 in
theorem said_none (line col pos why : Int) (w : World) : Calls Tryz.prog 11 #[.nilIface, fv 0 line col pos why] w fun e w' => e = .returned (.bool true) ∧ Below w.heap.size w w' := by
  go_enter Tryz.func11, Tryz.ntmps11
  go_wp2
  go_ret
  exact ⟨rfl, (Below.refl _ _).alloc (Nat.le_refl _) _⟩
theorem said_facts {A : Nat → Addr} {w1 w2 : World} {n g l c e : Nat} {pos : Int} (h : AsDone w1.drew ⟨n + 1, 0, none⟩ (PT g) w2) (hg : g < n) (hx2 : n + 1 < w1.heap.size)
    (y1 : w1.heap[g]? = some (.cells #[I l, I c, errV A e] 70 (0, 0))) (y2 : w1.heap[n]? = some (.cells #[.int .i64 (e : Int), .int .i64 (l : Int), .int .i64 (c : Int), .int .i64 pos, .int .i64 0] 46 (0, 0))) :
    w2.cell? ⟨n + 1, 0, none⟩ = some (PT g) ∧ w2.cell? ⟨g, 0, none⟩ = some (I l) ∧ w2.cell? ⟨g, 1, none⟩ = some (I c) ∧ w2.cell? ⟨g, 2, none⟩ = some (errV A e) ∧ w2.cell? ⟨n, 0, none⟩ = some (.int .i64 (e : Int)) ∧ w2.cell? ⟨n, 1, none⟩ = some (.int .i64 (l : Int)) ∧ w2.cell? ⟨n, 2, none⟩ = some (.int .i64 (c : Int)) ∧
    w2.heap[g]? = some (.cells #[I l, I c, errV A e] 70 (0, 0)) ∧ w2.heap[n]? = some (.cells #[.int .i64 (e : Int), .int .i64 (l : Int), .int .i64 (c : Int), .int .i64 pos, .int .i64 0] 46 (0, 0)) ∧ Below n w1 w2 := by
  have hk : ∀ j, j < n + 1 → w2.heap[j]? = w1.heap[j]? := fun j hj => h.keep j (show j < w1.heap.size by omega) (show j ≠ n + 1 by omega)
  have a1 := (hk g (by omega)).trans y1
  have a2 := (hk n (by omega)).trans y2
  exact ⟨h.cell, (bcell a1 0).trans rfl, (bcell a1 1).trans rfl, (bcell a1 2).trans rfl, (bcell a2 0).trans rfl, (bcell a2 1).trans rfl, (bcell a2 2).trans rfl, a1, a2, h.os, h.tape, h.output, h.size, fun k q => hk k (by omega)⟩
/-- behind the first test -/
structure SaidAt (A : Nat → Addr) (w : World) (g n l c e : Nat) (pos : Int) (wx : World) : Prop where
  below : Below n w wx
  fault : wx.heap[g]? = some (.cells #[I l, I c, errV A e] 70 (0, 0))
  want : wx.heap[n]? = some (.cells #[.int .i64 (e : Int), .int .i64 (l : Int), .int .i64 (c : Int), .int .i64 pos, .int .i64 0] 46 (0, 0))
  var : wx.cell? ⟨n + 1, 0, none⟩ = some (PT g)
/-- every call behind the first test, at any world in which nothing older has turned -/
structure SaidCalls (A : Nat → Addr) (T : Nat → ByteArray) (wc : World) (g n l c e : Nat) : Prop where
  hl : l ≤ 4611686018427387904
  hc : c ≤ 4611686018427387904
  cells : ∀ w', Below wc.heap.size wc w' → w'.cell? ⟨n, 0, none⟩ = some (.int .i64 (e : Int)) ∧ w'.cell? ⟨n, 1, none⟩ = some (.int .i64 (l : Int)) ∧ w'.cell? ⟨n, 2, none⟩ = some (.int .i64 (c : Int)) ∧ w'.cell? ⟨n + 1, 0, none⟩ = some (PT g) ∧ w'.cell? ⟨g, 2, none⟩ = some (errV A e)
  var : ∀ w', Below wc.heap.size wc w' → Calls Tryz.prog 32 #[.int .i64 (e : Int)] w' fun ev w'' => ev = .returned (errV A e) ∧ Below wc.heap.size wc w''
  kinds : ∀ w', Below wc.heap.size wc w' → Calls Tryz.prog 33 #[.iface 65 (PT g)] w' fun ev w'' => ev = .returned (.int .i64 1) ∧ Below wc.heap.size wc w''
  is : ∀ w', Below wc.heap.size wc w' → Calls Tryz.prog 27 #[.iface 65 (PT g), errV A e] w' fun ev w'' => ev = .returned (.bool true) ∧ Below wc.heap.size wc w''
  unwrap : ∀ w', Below wc.heap.size wc w' → Calls Tryz.prog 29 #[PT g] w' fun ev w'' => ev = .returned (errV A e) ∧ Below wc.heap.size wc w''
  same : ∀ w', Below wc.heap.size wc w' → Calls Tryz.prog 40 #[errV A e, errV A e] w' fun ev w'' => ev = .returned (.bool true) ∧ Below wc.heap.size wc w''
  text : ∀ s, wc.cell? (A e) = some (.string s) → s.size < 1000 → ∀ w', Below wc.heap.size wc w' → Calls Tryz.prog 28 #[PT g] w' fun ev w'' => ev = .returned (.string (ftext T l c s)) ∧ Below wc.heap.size wc w''
  es : ∀ s, wc.cell? (A e) = some (.string s) → ∀ w', Below wc.heap.size wc w' → Calls Tryz.prog 176 #[.pointer (some (A e))] w' fun ev w'' => ev = .returned (.string s) ∧ Below wc.heap.size wc w''
  dl : ∀ w', Below wc.heap.size wc w' → Calls Tryz.prog 41 #[.int .i64 (l : Int)] w' fun ev w'' => ev = .returned (.string (T l)) ∧ Below wc.heap.size wc w''
  dc : ∀ w', Below wc.heap.size wc w' → Calls Tryz.prog 41 #[.int .i64 (c : Int)] w' fun ev w'' => ev = .returned (.string (T c)) ∧ Below wc.heap.size wc w''
theorem said_calls (A : Nat → Addr) (T : Nat → ByteArray) (w wc : World) (g n l c e : Nat) (pos : Int) (hS : SG w A) (hI : IT w T) (hE : ET w) (h1 : 1 ≤ e) (h2 : e ≤ 20) (hl : l ≤ 4611686018427387904) (hc : c ≤ 4611686018427387904)
    (hD : ∀ n : Nat, n ≤ 4611686018427387904 → ∃ k, larderlaw04_digits.f k (n : Int) = some (T n)) (hn : n = w.heap.size) (h : SaidAt A w g n l c e pos wc) : SaidCalls A T wc g n l c e := by
  have hS' : SG wc A := hS.below (hn ▸ h.below)
  have hI' : IT wc T := hI.below (hn ▸ h.below)
  have gl := blt h.fault
  have nl := blt h.want
  have vl := World.block_lt_of_cell? wc _ h.var
  refine ⟨hl, hc, fun w' k => ⟨?_, ?_, ?_, ?_, ?_⟩, fun w' k => ?_, fun w' k => ?_, fun w' k => ?_, fun w' k => ?_, fun w' k => ?_, fun s hs hz w' k => ?_, fun s hs w' k => ?_, fun w' k => ?_, fun w' k => ?_⟩
  · exact (bcell ((k.block n nl).trans h.want) 0).trans rfl
  · exact (bcell ((k.block n nl).trans h.want) 1).trans rfl
  · exact (bcell ((k.block n nl).trans h.want) 2).trans rfl
  · exact (k.cell (p := ⟨n + 1, 0, none⟩) vl).trans h.var
  · exact (bcell ((k.block g gl).trans h.fault) 2).trans rfl
  · exact (variable_r e h1 h2 A w' (hS'.below k)).mono fun _ _ q => ⟨q.1, k.trans (q.2.mono k.size)⟩
  · exact (kinds_r A g e _ _ w' (hS'.below k) h1 h2 ((k.block g gl).trans h.fault)).mono fun _ _ q => ⟨q.1, k.trans (q.2.mono k.size)⟩
  · exact (is_code A g e e _ _ w' (hS'.below k) h1 h2 h1 h2 ((k.block g gl).trans h.fault)).mono fun _ _ q => ⟨q.1.trans (by rw [decide_eq_true rfl]), q.2 ▸ k⟩
  · exact (unwrap_r g _ _ _ w' ((k.block g gl).trans h.fault)).mono fun _ _ q => ⟨q.1, q.2 ▸ k⟩
  · exact (same_r (A e) w').mono fun _ _ q => ⟨q.1, q.2 ▸ k⟩
  · exact (fault_error T g l c (A e) s w' (hI'.below k) hl hc ((k.block g gl).trans h.fault) ((k.cell (World.block_lt_of_cell? wc _ hs)).trans hs) hz).mono fun _ _ q => ⟨q.1, k.trans (q.2.mono k.size)⟩
  · exact (es_error (A e) s w' ((k.cell (World.block_lt_of_cell? wc _ hs)).trans hs)).mono fun _ _ q => ⟨q.1, q.2 ▸ k⟩
  · obtain ⟨kk, hk⟩ := hD l hl
    exact (larderlaw04_digits.calls kk _ _ w' hk).mono fun _ _ q => ⟨q.1, k.trans (q.2.mono k.size)⟩
  · obtain ⟨kk, hk⟩ := hD c hc
    exact (larderlaw04_digits.calls kk _ _ w' hk).mono fun _ _ q => ⟨q.1, k.trans (q.2.mono k.size)⟩
set_option maxHeartbeats 8000000 in
set_option maxRecDepth 100000 in
theorem said_some (A : Nat → Addr) (T : Nat → ByteArray) (g l c e : Nat) (pos : Int) (w : World) (hS : SG w A) (hE : ET w) (hI : IT w T) (h1 : 1 ≤ e) (h2 : e ≤ 20) (h16 : e ≠ 16) (h17 : e ≠ 17) (hl : l ≤ 4611686018427387904) (hc : c ≤ 4611686018427387904)
    (hD : ∀ n : Nat, n ≤ 4611686018427387904 → ∃ k, larderlaw04_digits.f k (n : Int) = some (T n))
    (hg : w.heap[g]? = some (.cells #[I l, I c, errV A e] 70 (0, 0))) :
    Calls Tryz.prog 11 #[.iface 65 (PT g), fv e l c pos 0] w fun ev w' => ev = .returned (.bool true) ∧ Below w.heap.size w w' := by
  have z1 : ((e : Int) == 0) = false := by simp; omega
  have z2 : ((e : Int) != 16) = true := by simp; omega
  have z3 : ((e : Int) != 17) = true := by simp; omega
  have gl := blt hg
  have HG := Lib.hid hg
  have HS := Lib.hid hS
  have HEt := Lib.hid hE
  have HI := Lib.hid hI
  have HD := Lib.hid hD
  clear hg hS hE hI hD
  go_enter Tryz.func11, Tryz.ntmps11
  go_wp2
  obtain ⟨w1, hw1⟩ : ∃ w1, w1 = (w.alloc (.cells #[.int .i64 (e : Int), .int .i64 (l : Int), .int .i64 (c : Int), .int .i64 pos, .int .i64 0] 46)).alloc (.cells #[.pointer none] 65) := ⟨_, rfl⟩
  rw [← hw1]
  have hb : Below w.heap.size w w1 := by rw [hw1]; exact ((Below.refl _ _).alloc (Nat.le_refl _) _).alloc (by simp) _
  have hx1 : w1.heap[w.heap.size]? = some (.cells #[.int .i64 (e : Int), .int .i64 (l : Int), .int .i64 (c : Int), .int .i64 pos, .int .i64 0] 46 (0, 0)) := by
    rw [hw1, Below.heap_alloc _ _ _ (by simp)]; exact heap_alloc_new w _
  have hx2 : w1.heap[w.heap.size + 1]? = some (.cells #[.pointer none] 65 (0, 0)) := by
    rw [hw1]
    have := heap_alloc_new (w.alloc (.cells #[.int .i64 (e : Int), .int .i64 (l : Int), .int .i64 (c : Int), .int .i64 pos, .int .i64 0] 46)) (.cells #[.pointer none] 65)
    simpa using this
  have hb1 : w1.heap[g]? = some (.cells #[I l, I c, errV A e] 70 (0, 0)) := (hb.block g gl).trans HG.out
  have HB := Lib.hid hb
  have HX1 := Lib.hid hx1
  have HX2 := Lib.hid hx2
  have HB1 := Lib.hid hb1
  clear hw1 hb hx1 hx2 hb1
  have HA := Lib.hid (as_done g (w.heap.size + 1) (.pointer none) w1.drew (HEt.out.below HB.out.drew) ((bcell HX2.out 0).trans rfl) (bfree HX2.out 0))
  go_upto_region 4 with fail
  go_cut [50] (fun s50 wx => s50 = .bool false ∧ Hid (SaidAt A w g w.heap.size l c e pos wx))
  case first =>
    go_region_with (go_at_call 25; (with_reducible refine HA.out.mono ?_); rintro ev w2 ⟨rfl, hd⟩; obtain ⟨d5, d30, d31, d32, d40, d41, d42, y1, y2, hb2⟩ := said_facts hd gl (blt HX2.out) HB1.out HX1.out; have Y1 := Lib.hid y1; have Y2 := Lib.hid y2; have HB2 := Lib.hid hb2; clear hd y1 y2 hb2)
    all_goals
      go_wp2_with fail
      go_meet
      exact ⟨rfl, Lib.hid ⟨HB.out.trans HB2.out, Y1.out, Y2.out, d5⟩⟩
  case rest =>
    obtain ⟨rfl, HC⟩ := hcut
    have HK := Lib.hid (said_calls A T w wc g w.heap.size l c e pos HS.out HI.out HEt.out h1 h2 hl hc HD.out rfl HC.out)
    have hs0 := HS.out.below HC.out.below
    clear hl hc
    obtain ⟨s, hs, hz⟩ := hs0.ht e h1 h2
    clear hs0
    have HZ := Lib.hid hz
    have zl := HI.out.size l HK.out.hl
    have zc := HI.out.size c HK.out.hc
    have q1 : ¬ 9223372036854775807 < 5 + (T l).size := by omega
    have q2 : ¬ 9223372036854775807 < 5 + (T l).size + 8 := by omega
    have q3 : ¬ 9223372036854775807 < 5 + (T l).size + 8 + (T c).size := by omega
    have q4 : ¬ 9223372036854775807 < 5 + (T l).size + 8 + (T c).size + 2 := by omega
    have q5 : ¬ 9223372036854775807 < 5 + (T l).size + 8 + (T c).size + 2 + s.size := by omega
    have HKs := Lib.hid (HK.out.es s hs)
    have HKf := Lib.hid (HK.out.text s hs hz)
    clear hs hz
    obtain ⟨c1, c2, c3, c4, c5⟩ := HK.out.cells wc (Below.refl _ _)
    go_wp2_with (go_at_call 32; (with_reducible refine (HK.out.var _ (Below.refl _ _)).mono ?_); rintro ev w1 ⟨rfl, hb1⟩)
    clear c1 c2 c3 c4 c5
    have hb0 : Below wc.heap.size wc w1.drew := hb1.drew
    have HB1 := Lib.hid hb1
    have hm := methodError
    clear hb1
    go_region_held3 (fun w' => w'.cell? ⟨w.heap.size, 0, none⟩ = some (.int .i64 (e : Int)) ∧ w'.cell? ⟨w.heap.size, 1, none⟩ = some (.int .i64 (l : Int)) ∧ w'.cell? ⟨w.heap.size, 2, none⟩ = some (.int .i64 (c : Int)) ∧ w'.cell? ⟨w.heap.size + 1, 0, none⟩ = some (PT g) ∧ w'.cell? ⟨g, 2, none⟩ = some (errV A e))
      (exact HK.out.cells _ (by assumption))
      (first
        | (go_at_call 33; (with_reducible refine (HK.out.kinds _ (by assumption)).mono ?_); rintro ev w2 ⟨rfl, hb2⟩)
        | (go_at_call 27; (with_reducible refine (HK.out.is _ (by assumption)).mono ?_); rintro ev w3 ⟨rfl, hb3⟩)
        | (go_at_call 29; (with_reducible refine (HK.out.unwrap _ (by assumption)).mono ?_); rintro ev w4 ⟨rfl, hb4⟩)
        | (go_at_call 40; (with_reducible refine (HK.out.same _ (by assumption)).mono ?_); rintro ev w5 ⟨rfl, hb5⟩)
        | (go_at_call 28; (with_reducible refine (HKf.out _ (by assumption)).mono ?_); rintro ev w6 ⟨rfl, hb6⟩)
        | (go_at_call 41; (with_reducible refine (HK.out.dl _ (by assumption)).mono ?_); rintro ev w7 ⟨rfl, hb7⟩)
        | (go_at_call 41; (with_reducible refine (HK.out.dc _ (by assumption)).mono ?_); rintro ev w8 ⟨rfl, hb8⟩)
        | (go_at_call 176; (with_reducible refine (HKs.out _ (by assumption)).mono ?_); rintro ev w9 ⟨rfl, hb9⟩))
    all_goals
      have HB9 := Lib.hid ((hb9.alloc hb9.size (.cells #[.pointer none] 74)))
      clear hb0 hb2 hb3 hb4 hb5 hb6 hb7 hb8 hb9
      have HW := Lib.hid (as_why g w9.heap.size (I l) (I c) (A e) (w9.alloc (.cells #[.pointer none] 74)) ((HEt.out.below HC.out.below).below HB9.out) ((HB9.out.block g (blt HC.out.fault)).trans HC.out.fault))
      go_wp2_with (first
        | (go_at_call 25; (with_reducible refine HW.out.mono ?_); rintro ev w10 ⟨rfl, hb10⟩; have HB10 := Lib.hid (HB9.out.trans (hb10.mono HB9.out.size)); clear hb10; obtain ⟨d1, d2, d3, d4, d5⟩ := HK.out.cells _ HB10.out)
        | (go_at_call 40; (with_reducible refine (HK.out.same _ HB10.out).mono ?_); rintro ev w11 ⟨rfl, hb11⟩))
      go_ret
      exact ⟨rfl, HC.out.below.trans (hb11.mono HC.out.below.size)⟩
end Go.Proofs.YtappphffbnkloaaGreatDoor.Sht
set_option linter.unusedVariables false
set_option linter.unusedSimpArgs false
namespace Go.Proofs.YtappphffbnkloaaGreatDoor.Sht
open Go Go.RowKit Go.Joins
attribute [local go_sem ↓] Go.wp_at_zero Go.wp_at_succ
variable {A : Nat → Addr} {W0 W : World} {b : Nat} {s : RS}
/-- rows that were told: nobody else's -/
def ToldAt (W0 W : World) (b : Nat) (v : Value) (rs : List (List (List UInt8))) : Prop :=
  ∃ lv, W.ownsRow W0.heap.size 28 1 v rs.length lv ∧ RowsAt W W0.heap.size lv rs ∧ (ob v ++ lv.flatMap ob).Nodup ∧ ∀ j ∈ ob v ++ lv.flatMap ob, ¬ wr W b j
/-- an error that was told -/
def ErrAt (W : World) (B : Nat) (A : Nat → Addr) (b : Nat) (v : Value) (f : Option (Nat × Nat × Nat)) : Prop := FaultAt W B A v f ∧ ∀ j ∈ fb v, ¬ wr W b j
/-- the blocks of what was told were the Reader's, or are new -/
def Src (W : World) (b : Nat) (v : Value) (w' : World) : Prop := ∀ j, (v.ownBlock = some j ∨ ∃ (g n c i : Nat) (u : Value), v = .slice (some ⟨g, 0, none⟩) n c ∧ i < n ∧ w'.cell? ⟨g, i, none⟩ = some u ∧ u.ownBlock = some j) → (wr W b j ∨ tw W b j) ∨ W.heap.size ≤ j
theorem Src.fr {u w w' : World} {b : Nat} {v : Value} (h : Src w b v w') (k : Fr b u w) : Src u b v w' := fun j hj => by
  rcases h j hj with (q | q) | q
  · rcases k.own j q with q | q
    · exact .inl (.inl q)
    · exact .inr q
  · exact k.told j q
  · exact .inr (Nat.le_trans k.size q)
def Fed (A : Nat → Addr) (W0 W : World) (b : Nat) (s : RS) (e : Ending) (w' : World) : Prop :=
  ∃ vl ve, e = .returned (.tuple #[vl, ve]) ∧ R A W0 w' b { s with rows := [] } ∧ ToldAt W0 w' b vl s.rows ∧ ErrAt w' W.heap.size A b ve s.fault ∧ Fr b W w' ∧ Src W b vl w'
/-- the bytes of a piece -/
def Piece (W : World) (g off : Nat) (l : List UInt8) : Prop := ∀ i (h : i < l.length), W.cell? ⟨g, off + i, none⟩ = some (ch l[i])
theorem isDone {vc vr vl fl : Value} {lv : List Value} (hF : SF W0 A) (h : RD A W0 W b s vc vr vl fl lv) (hd : ∀ l c, s.fault ≠ some (l, c, 9)) (w : World) (hw : w.heap = W.heap) :
    Calls Tryz.prog 27 #[fl, errV A 9] w fun e w' => e = .returned (.bool false) ∧ w' = w := by
  have hf := h.flt
  have hS := hF.below h.below
  cases hs : s.fault with
  | none =>
    rw [hs] at hf
    simp only [FaultAt] at hf
    subst hf
    exact (is_nil _ w).mono fun e w' ⟨h1, h2⟩ => ⟨h1, h2.symm⟩
  | some f =>
    obtain ⟨l, c, e⟩ := f
    rw [hs] at hf
    obtain ⟨hc, g, _, rfl, hg⟩ := hf
    have hne : e ≠ 9 := fun q => hd l c (by rw [hs, q])
    obtain ⟨ca, ta, ha⟩ := hS.hb e hc
    obtain ⟨cb, tb, hb⟩ := hS.hb 9 (cod (by omega))
    exact (is_fault_no g (A e) (A 9) (I l) (I c) ca cb ta tb w (by rw [hw]; exact hg) (hS.hn e 9 hc (cod (by omega)) hne) (by rw [hw]; exact ha) (by rw [hw]; exact hb)).mono fun e w' ⟨h1, h2⟩ => ⟨h1, h2.symm⟩
/-- the end of a Feed and of a Close -/
theorem again_r {vc vr vl fl : Value} {lv : List Value} (hE : ET W0) (h : RD A W0 W b s vc vr vl fl lv) :
    Calls Tryz.prog 38 #[fl] W fun e w' => ∃ ve, e = .returned ve ∧ FaultAt w' W.heap.size A ve s.fault ∧ Below W.heap.size W w' := by
  have hf := h.flt
  cases hs : s.fault with
  | none =>
    rw [hs] at hf
    simp only [FaultAt] at hf
    subst hf
    exact (again_nil W).mono fun e w' ⟨h1, h2⟩ => ⟨_, h1, rfl, h2⟩
  | some f =>
    obtain ⟨l, c, e⟩ := f
    rw [hs] at hf
    obtain ⟨hc, g, _, rfl, hg⟩ := hf
    refine (again_some g l c (A e) W (hE.below h.below) hg).mono ?_
    rintro e' w' ⟨g', h1, h2, h3, h4⟩
    exact ⟨_, h2, ⟨hc, g', h1, rfl, h3⟩, h4⟩
theorem Fr.of_below {w w' : World} (hb : b < w.heap.size) (h9 : ∀ g n c : Nat, w.cell? ⟨b, 9, none⟩ = some (.slice (some ⟨g, 0, none⟩) n c) → g < w.heap.size) (h : Below w.heap.size w w') : Fr b w w' :=
  ⟨h.os, h.tape, h.output, h.size, fun j hj _ => h.block j hj, fun j hj => by
    rcases hj with e | ⟨o, v, ho, h1, h2⟩
    · exact .inl (.inl e)
    · exact .inl (.inr ⟨o, v, ho, (h.cell (p := ⟨b, o, none⟩) hb).symm.trans h1, h2⟩), fun j hj => by
    obtain ⟨g, n, c, i, u, q1, q2, q3, q4⟩ := hj
    have q1' := (h.cell (p := ⟨b, 9, none⟩) hb).symm.trans q1
    exact .inl (.inr ⟨g, n, c, i, u, q1', q2, (h.cell (p := ⟨g, i, none⟩) (h9 g n c q1')).symm.trans q3, q4⟩)⟩
theorem R.of_below {w' : World} (h : R A W0 W b s) (k : Below W.heap.size W w') : Fr b W w' := by
  obtain ⟨vc, vr, vl, fl, lv, h⟩ := h
  refine Fr.of_below h.lt (fun g n c q => ?_) k
  have c9 : W.cell? ⟨b, 9, none⟩ = some vl := (bcell h.blk 9).trans rfl
  obtain rfl : vl = .slice (some ⟨g, 0, none⟩) n c := Option.some.inj (c9.symm.trans q)
  exact (h.hl.lt g rfl).2
theorem wr_below {w w' : World} (hb : b < w.heap.size) (h : Below w.heap.size w w') (j : Nat) (hj : wr w' b j) : wr w b j := by
  rcases hj with e | ⟨o, v, ho, h1, h2⟩
  · exact .inl e
  · exact .inr ⟨o, v, ho, (h.cell (p := ⟨b, o, none⟩) hb).symm.trans h1, h2⟩
theorem fed_of {vc vr vl fl ve : Value} {lv : List Value} {w' : World} (h : RD A W0 W b s vc vr vl fl lv) (hf : FaultAt w' W.heap.size A ve s.fault) (k : Below W.heap.size (W.setCell ⟨b, 9, none⟩ (.slice none 0 0)) w') : Fed A W0 W b s (.returned (.tuple #[vl, ve])) w' := by
  have ht := h.told
  have hz : (W.setCell ⟨b, 9, none⟩ (.slice none 0 0)).heap.size = W.heap.size := setSize _ _ _
  have k' : Below (W.setCell ⟨b, 9, none⟩ (.slice none 0 0)).heap.size (W.setCell ⟨b, 9, none⟩ (.slice none 0 0)) w' := by rw [hz]; exact k
  have hbl : b < (W.setCell ⟨b, 9, none⟩ (.slice none 0 0)).heap.size := by rw [hz]; exact h.lt
  have hd := h.dis
  have hall := h.all_lt
  have hnb : ∀ j ∈ ob vl ++ lv.flatMap ob, j ≠ b ∧ j ∉ ob vc ∧ j ∉ ob vr := by
    intro j hj
    simp only [List.nodup_cons, List.nodup_append, List.mem_append] at hd hj
    refine ⟨fun e => hd.1 (by rcases hj with hj | hj; exact .inr (.inr (.inl (e ▸ hj))); exact .inr (.inr (.inr (.inr (e ▸ hj))))), fun e => ?_, fun e => ?_⟩
    · exact hd.2.2.2 j e j (by rcases hj with hj | hj; exact .inr (.inl hj); exact .inr (.inr (.inr hj))) rfl
    · exact hd.2.2.1.2.2 j e j (by rcases hj with hj | hj; exact .inl hj; exact .inr (.inr hj)) rfl
  have hsame : ∀ j ∈ ob vl ++ lv.flatMap ob, w'.heap[j]? = W.heap[j]? := fun j hj => by
    have hlt : j < W.heap.size := hall j (by simp only [List.mem_cons, List.mem_append] at hj ⊢; rcases hj with hj | hj; exact .inr (.inr (.inr (.inl hj))); exact .inr (.inr (.inr (.inr (.inr hj)))))
    exact (k.block j hlt).trans (Below.heap_setCell W ⟨b, 9, none⟩ _ j (hnb j hj).1)
  refine ⟨vl, ve, rfl, R.mk (ht.kept (k.mono h.below.size) (fun j hj => k'.block j (ht.all_lt j hj))), ⟨lv, ownsRow_kept h.hl fun j hj => hsame j (List.mem_append_left _ (mem_ob.2 hj)), rowsAt_kept h.rws fun j hj => hsame j (List.mem_append_right _ hj), ?_, fun j hj hw => ?_⟩, ⟨hf, fun j hj hw => ?_⟩, h.told_fr.trans (Fr.of_below hbl (fun g n c q => by rw [show (W.setCell ⟨b, 9, none⟩ (.slice none 0 0)).cell? ⟨b, 9, none⟩ = some (.slice none 0 0) from (bcell ht.blk 9).trans rfl] at q; cases q) k'), fun j hj => ?_⟩
  · refine List.Nodup.sublist ?_ hd
    refine List.Sublist.cons _ ?_
    refine List.Sublist.trans ?_ (List.sublist_append_right _ _)
    refine List.Sublist.trans ?_ (List.sublist_append_right _ _)
    exact List.Sublist.append (List.Sublist.refl _) (List.sublist_append_right _ _)
  · have := wr_below hbl k' j hw
    rw [ht.wr_iff] at this
    obtain ⟨n1, n2, n3⟩ := hnb j hj
    rcases this with e | e | e | e
    · exact n1 e
    · exact n2 (mem_ob.2 e)
    · exact n3 (mem_ob.2 e)
    · simp [Value.ownBlock] at e
  · have hw2 := wr_below hbl k' j hw
    rw [ht.wr_iff] at hw2
    have hge : W.heap.size ≤ j := by
      cases hs : s.fault with
      | none => rw [hs] at hf; simp only [FaultAt] at hf; subst hf; simp [fb] at hj
      | some f =>
        obtain ⟨l, c, e⟩ := f
        rw [hs] at hf
        obtain ⟨_, g, hg, rfl, _⟩ := hf
        simp only [fb, List.mem_singleton] at hj
        omega
    rcases hw2 with e | e | e | e
    · have := h.lt; omega
    · have := hall j (by simp only [List.mem_cons, List.mem_append]; exact .inr (.inl (mem_ob.2 e))); omega
    · have := hall j (by simp only [List.mem_cons, List.mem_append]; exact .inr (.inr (.inl (mem_ob.2 e)))); omega
    · simp [Value.ownBlock] at e
  · rcases hj with hj | ⟨g, n, c, i, u, e, q1, q2, q3⟩
    · exact .inl (.inl ((h.wr_iff j).2 (.inr (.inr (.inr hj)))))
    · have q2' : W.cell? ⟨g, i, none⟩ = some u := (World.cell?_of_block (w := W) (hsame g (List.mem_append_left _ (mem_ob.2 (by rw [e]; rfl))))).symm.trans q2
      exact .inl (.inr ⟨g, n, c, i, u, ((bcell h.blk 9).trans (by rw [e]; rfl)), q1, q2', q3⟩)
theorem fed_mono {w : World} {e : Ending} {w' : World} (h : Fed A W0 w b s e w') (k : Fr b W w) : Fed A W0 W b s e w' := by
  obtain ⟨vl, ve, h1, h2, h3, ⟨h4, h5⟩, h6, h7⟩ := h
  refine ⟨vl, ve, h1, h2, h3, ⟨?_, h5⟩, k.trans h6, h7.fr k⟩
  cases hs : s.fault with
  | none => rw [hs] at h4; exact h4
  | some f =>
    obtain ⟨l, c, e⟩ := f
    rw [hs] at h4
    obtain ⟨q1, g, q2, q3⟩ := h4
    exact ⟨q1, g, Nat.le_trans k.size q2, q3⟩
/-- what the last statement of Feed and of Close wants -/
theorem RD.ends {vc vr vl fl : Value} {lv : List Value} (hE : ET W0) (h : RD A W0 W b s vc vr vl fl lv) :
    (∃ a n c, vl = .slice a n c) ∧ (Calls Tryz.prog 37 #[PT b] W.drew fun e w' => e = .returned vl ∧ w' = W.drew.setCell ⟨b, 9, none⟩ (.slice none 0 0)) ∧
    (Calls Tryz.prog 38 #[fl] (W.setCell ⟨b, 9, none⟩ (.slice none 0 0)).drew fun e w' => ∃ ve, e = .returned ve ∧ FaultAt w' W.heap.size A ve s.fault ∧ Below W.heap.size (W.setCell ⟨b, 9, none⟩ (.slice none 0 0)) w') := by
  have hv : ∃ a n c, vl = .slice a n c := by
    rcases ownsRow_forms h.hl with ⟨e, _⟩ | ⟨g, cap, e⟩
    · exact ⟨_, _, _, e⟩
    · exact ⟨_, _, _, e⟩
  obtain ⟨_, _, _, _, _, _, _, _, _, c9, _, _, _⟩ := h.cells
  obtain ⟨_, _, _, _, _, _, _, _, _, f9, _, _, _⟩ := h.free
  refine ⟨hv, told_any (W := W.drew) vl hv c9 f9, ?_⟩
  refine (again_r hE h.told.drew).mono ?_
  rintro e w' ⟨ve, h1, h2, h3⟩
  rw [show (W.setCell ⟨b, 9, none⟩ (.slice none 0 0)).drew.heap.size = W.heap.size from setSize _ _ _] at h2 h3
  exact ⟨ve, h1, h2, ⟨h3.os, h3.tape, h3.output, h3.size, h3.block⟩⟩
end Go.Proofs.YtappphffbnkloaaGreatDoor.Sht
set_option linter.unusedVariables false
set_option linter.unusedSimpArgs false
namespace Go.Proofs.YtappphffbnkloaaGreatDoor.Sht
open Go Go.RowKit Go.Joins
attribute [local go_sem ↓] Go.wp_at_zero Go.wp_at_succ
variable {A : Nat → Addr} {W0 W : World} {b : Nat} {s : RS}
theorem R.drewN (h : R A W0 W b s) (n : Nat) : R A W0 (W.drewN n) b s := by
  obtain ⟨_, _, _, _, _, h⟩ := h
  exact R.mk (h.drewN n)
set_option maxHeartbeats 8000000 in
set_option maxRecDepth 100000 in
theorem feed_r (hF : SF W0 A) (hE : ET W0) (hR : R A W0 W b s) (hL : s.Live) (hd : ∀ l c, s.fault ≠ some (l, c, 9)) (g off cap : Nat) (l : List UInt8) (hp : Piece W g off l) (hg : g < W.heap.size) (hw : ¬ wr W b g) (hl : l.length ≤ 4611686018427387904) :
    Calls Tryz.prog 15 #[PT b, .slice (some ⟨g, off, none⟩) l.length cap] W (Fed A W0 W b (s.feed l)) := by
  obtain ⟨vc, vr, vl, fl, lv, h⟩ := hR
  have HI := Lib.hid (isDone hF h hd)
  have HR := Lib.hid (R.mk h)
  obtain ⟨_, _, _, _, _, _, _, _, _, _, _, _, c12⟩ := h.cells
  have gE : W.cell? ⟨4, 0, none⟩ = some (errV A 9) := h.gl hF 9 (cod (by omega))
  have HF := Lib.hid hF
  have HE := Lib.hid hE
  have HL := Lib.hid hL
  have HP := Lib.hid hp
  have HW := Lib.hid hw
  clear h hF hE hL hp hw hd
  go_enter Tryz.func15, Tryz.ntmps15
  go_wp2
  go_quiet ((go_at_call 27; exact Calls.quiet_of_same (HI.out _ (by rfl))))
  go_wp2
  go_loopw [6] (fun i wr => ∃ k : Nat, k ≤ l.length ∧ i = .int .i64 (k : Int) ∧ Hid (R A W0 wr b (s.feed (l.take k))) ∧ Hid (Fr b W wr)) (fun i _ => l.length - (intOf i).toNat)
  case atStart => exact ⟨0, Nat.zero_le _, rfl, Lib.hid (R.drewN HR.out _), Lib.hid ((Fr.refl b W).drewN _)⟩
  case round =>
    obtain ⟨k, hk, rfl, HRk, HFk⟩ := hrel
    clear c12 gE
    have hlive := live_feed (l.take k) s HL.out
    have HLk := Lib.hid hlive
    clear hlive
    obtain ⟨sk, hsk⟩ : ∃ sk, sk = s.feed (l.take k) := ⟨_, rfl⟩
    rw [← hsk] at HRk HLk
    have HS := Lib.hid hsk
    clear hsk
    by_cases hlt : k < l.length
    · by_cases hf : sk.fault = none
      · -- a byte is taken
        have HI := HLk.out hf
        have HIV := Lib.hid HI
        have hx : s.feed (l.take (k + 1)) = sk.step l[k] := by
          have e : l.take (k + 1) = l.take k ++ [l[k]] := by rw [List.take_succ_eq_append_getElem hlt]
          rw [e, feed_snoc _ _ _ (by rw [← HS.out]; exact hf), ← HS.out]
        have HX := Lib.hid hx
        have HFF := Lib.hid hf
        clear hx
        obtain ⟨vc2, vr2, vl2, fl2, lv2, h2⟩ := HRk.out
        obtain ⟨-, -, c2, c3, c4, -, -, -, -, -, -, -, c12⟩ := h2.cells
        obtain ⟨_, _, f2, f3, f4, _, _, _, _, _, _, _, _⟩ := h2.free
        have hflt := h2.flt
        rw [hf] at hflt
        simp only [FaultAt] at hflt
        subst hflt
        have hgb := HFk.out.keep g hg HW.out
        have hpc : wr.cell? ⟨g, off + k, none⟩ = some (.int .u8 (l[k].toNat : Int)) := (World.cell?_of_block (a := ⟨g, off + k, none⟩) (w := W) hgb).trans (HP.out k hlt)
        have k0 : (0 : Int) ≤ (k : Int) := Int.natCast_nonneg _
        have k1 : (k : Int) < (l.length : Int) := by omega
        have hall := HI.all
        have hbd := HI.bd
        have hline := hbd.line
        have hcol := hbd.col
        have H2R := Lib.hid (R.mk h2)
        have HH2 := Lib.hid h2
        clear hbd HI hf h2
        by_cases ha : sk.all = 262144
        · have q4 : ((sk.all : Int) == 262144) = true := by simp [ha]
          have gL : wr.cell? ⟨0, 0, none⟩ = some (errV A 20) := HH2.out.gl HF.out 20 (cod (by omega))
          have HLL := Lib.hid (fail_r sk.line sk.col 20 (cod (by omega)) H2R.out.drew)
          have HFIN : Hid (s.feed l = sk.fail sk.line sk.col 20) := Lib.hid (by
            rw [← List.take_append_drop k l, feed_app, ← HS.out, List.drop_eq_getElem_cons hlt, feed_cons HFF.out, RS.step, if_pos ha]
            exact feed_stop (by intro e; cases e) _)
          clear ha
          go_wp2
          go_still_tail 6, (by kernel_rfl)
          change wpList _ _ _ _ _ wr.drew
          go_wp2_with (go_at_call 45; (with_reducible refine HLL.out.mono ?_); rintro e w2 ⟨rfl, hR2, hF2⟩; have HR2 := Lib.hid hR2; have HF2 := Lib.hid hF2; clear hR2 hF2)
          clear c2 c3 c4 f2 f3 f4 c12
          obtain ⟨vc2, vr2, vl2, fl2, lv2, h2⟩ := HR2.out
          obtain ⟨_, _, _, _, _, _, _, _, _, _, _, _, c12⟩ := h2.cells
          obtain ⟨_, hT, hA⟩ := h2.ends HE.out
          have HT := Lib.hid hT
          have HA := Lib.hid hA
          have H2 := Lib.hid h2
          clear hT hA h2
          go_region_with (first
            | (go_at_call 37; (with_reducible refine HT.out.mono ?_); rintro e w3 ⟨rfl, rfl⟩)
            | (go_at_call 38; (with_reducible refine HA.out.mono ?_); rintro e w3 ⟨ve, rfl, hv, hb3⟩; have HV := Lib.hid hv; have HB3 := Lib.hid hb3; clear hv hb3))
          all_goals
            simp only [List.getElem_toArray, List.getElem_cons_succ, List.getElem_cons_zero, Act.put, List.setIfInBounds_toArray, List.set_cons_zero, List.set_cons_succ]
            go_wp2
            go_ret2
            show Fed A W0 W b (s.feed l) (.returned (.tuple #[vl2, ve])) _
            rw [HFIN.out]
            exact fed_mono (fed_of H2.out HV.out HB3.out) (HFk.out.drew.trans HF2.out)
        · have q4 : ((sk.all : Int) == 262144) = false := by simp; omega
          have h4 := HH2.out.set 4 (.int .i64 ((sk.all : Int) + 1)) { sk with all := sk.all + 1 } rfl rfl rfl rfl rfl
          have hf4 := HH2.out.set_fr h4 rfl rfl rfl
          obtain ⟨F, hF0, hcf, hN⟩ := next_r HF.out l[k] (bump HIV.out) (by omega) HIV.out.bk (R.mk h4)
          have c0 : wr.cell? ⟨b, 0, none⟩ = some (.func (.func F) #[PT b] #[]) := by rw [← hF0]; exact (bcell HH2.out.blk 0).trans rfl
          unfold Enters at hcf
          have hkn := kNext { sk with all := sk.all + 1 } l[k]
          have HKN := Lib.hid hkn
          have HNX := Lib.hid hN
          have HF4 := Lib.hid hf4
          have hst := step_on ha l[k]
          have HST := Lib.hid hst
          clear h4 hf4 hF0 hN hkn hst ha
          by_cases h10 : l[k] = 10
          · have q10 : ((l[k].toNat : Int) == 10) = true := byte_eq h10
            have H10 := Lib.hid h10
            clear h10
            go_wp2_with ((with_reducible refine HNX.out.mono ?_); rintro e w2 ⟨rfl, hR2, hF2⟩; have HF2 := Lib.hid hF2; obtain ⟨vc3, vr3, vl3, fl3, lv3, h3⟩ := hR2; have HH3 := Lib.hid h3; obtain ⟨-, -, d2, d3, -⟩ := h3.cells; obtain ⟨_, _, g2, g3, _⟩ := h3.free; rw [HKN.out.line] at d2; rw [HKN.out.col] at d3; clear h3 hF2)
            obtain ⟨s2, hs2⟩ : ∃ s2, s2 = RS.next { sk with all := sk.all + 1 } l[k] := ⟨_, rfl⟩
            have hk2 := HKN.out
            have hst2 := HST.out
            have h3 := HH3.out
            rw [← hs2] at hk2 hst2 h3
            have ec : (sk.col : Int) = (s2.col : Int) := by rw [hk2.col]
            have el : (sk.line : Int) = (s2.line : Int) := by rw [hk2.line]
            rw [ec]
            rw [el]
            have h5 := h3.set 3 (.int .i64 ((s2.col : Int) + 1)) { s2 with col := s2.col + 1 } rfl rfl rfl rfl rfl
            have h6 := h5.set 2 (.int .i64 ((s2.line : Int) + 1)) { s2 with col := s2.col + 1, line := s2.line + 1 } rfl rfl rfl rfl rfl
            have h7 := h6.set 3 (.int .i64 0) { s2 with line := s2.line + 1, col := 0 } rfl rfl rfl rfl rfl
            have e7 : s.feed (l.take (k + 1)) = { s2 with line := s2.line + 1, col := 0 } := by rw [HX.out, hst2, RS.on, if_pos H10.out]
            refine ⟨⟨k + 1, by omega, by go_num, Lib.hid ?_, Lib.hid ?_⟩, by simp [intOf]; omega⟩
            · rw [e7]; exact R.mk h7
            · exact ((((HFk.out.trans HF4.out).trans HF2.out).trans (h3.set_fr h5 rfl rfl rfl)).trans (h5.set_fr h6 rfl rfl rfl)).trans (h6.set_fr h7 rfl rfl rfl)
          · have q10 : ((l[k].toNat : Int) == 10) = false := byte_ne h10
            have H10 := Lib.hid h10
            clear h10
            go_wp2_with ((with_reducible refine HNX.out.mono ?_); rintro e w2 ⟨rfl, hR2, hF2⟩; have HF2 := Lib.hid hF2; obtain ⟨vc3, vr3, vl3, fl3, lv3, h3⟩ := hR2; have HH3 := Lib.hid h3; obtain ⟨-, -, d2, d3, -⟩ := h3.cells; obtain ⟨_, _, g2, g3, _⟩ := h3.free; rw [HKN.out.line] at d2; rw [HKN.out.col] at d3; clear h3 hF2)
            obtain ⟨s2, hs2⟩ : ∃ s2, s2 = RS.next { sk with all := sk.all + 1 } l[k] := ⟨_, rfl⟩
            have hk2 := HKN.out
            have hst2 := HST.out
            have h3 := HH3.out
            rw [← hs2] at hk2 hst2 h3
            have ec : (sk.col : Int) = (s2.col : Int) := by rw [hk2.col]
            have el : (sk.line : Int) = (s2.line : Int) := by rw [hk2.line]
            rw [ec]
            have h5 := h3.set 3 (.int .i64 ((s2.col : Int) + 1)) { s2 with col := s2.col + 1 } rfl rfl rfl rfl rfl
            have e7 : s.feed (l.take (k + 1)) = { s2 with col := s2.col + 1 } := by rw [HX.out, hst2, RS.on, if_neg H10.out]
            refine ⟨⟨k + 1, by omega, by go_num, Lib.hid ?_, Lib.hid ?_⟩, by simp [intOf]; omega⟩
            · rw [e7]; exact R.mk h5
            · exact ((HFk.out.trans HF4.out).trans HF2.out).trans (h3.set_fr h5 rfl rfl rfl)
      · obtain ⟨vc2, vr2, vl2, fl2, lv2, h2⟩ := HRk.out
        obtain ⟨_, _, _, _, _, _, _, _, _, _, _, _, c12⟩ := h2.cells
        have hflt := h2.flt
        obtain ⟨f, hf'⟩ := Option.ne_none_iff_exists'.1 hf
        obtain ⟨fl, fc, fe⟩ := f
        rw [hf'] at hflt
        obtain ⟨_, fg, _, rfl, _⟩ := hflt
        clear hf'
        have hfin : s.feed l = sk := by rw [← List.take_append_drop k l, feed_app, ← HS.out, feed_stop hf]
        have HFIN := Lib.hid hfin
        obtain ⟨_, hT, hA⟩ := h2.ends HE.out
        have HT := Lib.hid hT
        have HA := Lib.hid hA
        have H2 := Lib.hid h2
        clear hT hA h2 hfin
        go_wp2
        go_region_with (first
          | (go_at_call 37; (with_reducible refine HT.out.mono ?_); rintro e w2 ⟨rfl, rfl⟩)
          | (go_at_call 38; (with_reducible refine HA.out.mono ?_); rintro e w3 ⟨ve, rfl, hv, hb3⟩; have HV := Lib.hid hv; have HB3 := Lib.hid hb3; clear hv hb3))
        all_goals
          simp only [List.getElem_toArray, List.getElem_cons_succ, List.getElem_cons_zero, Act.put, List.setIfInBounds_toArray, List.set_cons_zero, List.set_cons_succ]
          go_wp2
          go_ret2
          show Fed A W0 W b (s.feed l) (.returned (.tuple #[vl2, ve])) _
          rw [HFIN.out]
          exact fed_mono (fed_of H2.out HV.out HB3.out) HFk.out
    · obtain ⟨vc2, vr2, vl2, fl2, lv2, h2⟩ := HRk.out
      obtain ⟨_, _, _, _, _, _, _, _, _, _, _, _, c12⟩ := h2.cells
      have hfin : s.feed l = sk := by rw [HS.out, List.take_of_length_le (by omega)]
      have HFIN := Lib.hid hfin
      obtain ⟨_, hT, hA⟩ := h2.ends HE.out
      have HT := Lib.hid hT
      have HA := Lib.hid hA
      have H2 := Lib.hid h2
      clear hT hA h2 hfin
      go_wp2
      go_region_with (first
        | (go_at_call 37; (with_reducible refine HT.out.mono ?_); rintro e w2 ⟨rfl, rfl⟩)
        | (go_at_call 38; (with_reducible refine HA.out.mono ?_); rintro e w3 ⟨ve, rfl, hv, hb3⟩; have HV := Lib.hid hv; have HB3 := Lib.hid hb3; clear hv hb3))
      all_goals
        simp only [List.getElem_toArray, List.getElem_cons_succ, List.getElem_cons_zero, Act.put, List.setIfInBounds_toArray, List.set_cons_zero, List.set_cons_succ]
        go_wp2
        go_ret2
        show Fed A W0 W b (s.feed l) (.returned (.tuple #[vl2, ve])) _
        rw [HFIN.out]
        exact fed_mono (fed_of H2.out HV.out HB3.out) HFk.out
end Go.Proofs.YtappphffbnkloaaGreatDoor.Sht
set_option linter.unusedVariables false
set_option linter.unusedSimpArgs false
namespace Go.Proofs.YtappphffbnkloaaGreatDoor.Sht
open Go Go.RowKit Go.Joins
attribute [local go_sem ↓] Go.wp_at_zero Go.wp_at_succ
variable {A : Nat → Addr} {W0 W : World} {b : Nat} {s : RS}
theorem rows_lt {W : World} {B : Nat} : ∀ {lv : List Value} {rs : List (List (List UInt8))}, RowsAt W B lv rs → ∀ j ∈ lv.flatMap ob, B ≤ j ∧ j < W.heap.size
  | [], _, _, j, hj => by simp at hj
  | v :: lv, r :: rs, h, j, hj => by
    simp only [List.flatMap_cons, List.mem_append] at hj
    rcases hj with hj | hj
    · exact h.1.lt j (mem_ob.1 hj)
    · exact rows_lt h.2 j hj
  | _ :: _, [], h, _, _ => h.elim
theorem ToldAt.lt {v : Value} {rs : List (List (List UInt8))} {lv : List Value} {w : World} (h1 : w.ownsRow W0.heap.size 28 1 v rs.length lv) (h2 : RowsAt w W0.heap.size lv rs) : ∀ j ∈ ob v ++ lv.flatMap ob, W0.heap.size ≤ j ∧ j < w.heap.size := by
  intro j hj
  simp only [List.mem_append] at hj
  rcases hj with hj | hj
  · exact h1.lt j (mem_ob.1 hj)
  · exact rows_lt h2 j hj
theorem ToldAt.fr {v : Value} {rs : List (List (List UInt8))} {w w' : World} (h : ToldAt W0 w b v rs) (k : Fr b w w') : ToldAt W0 w' b v rs := by
  obtain ⟨lv, h1, h2, h3, h4⟩ := h
  have hlt := ToldAt.lt h1 h2
  have same : ∀ j ∈ ob v ++ lv.flatMap ob, w'.heap[j]? = w.heap[j]? := fun j hj => k.keep j (hlt j hj).2 (h4 j hj)
  exact ⟨lv, ownsRow_kept h1 fun j hj => same j (List.mem_append_left _ (mem_ob.2 hj)), rowsAt_kept h2 fun j hj => same j (List.mem_append_right _ hj), h3, fun j hj hw => by
    rcases k.own j hw with e | e
    · exact h4 j hj e
    · have := (hlt j hj).2; omega⟩
theorem err_lt {w : World} {B : Nat} {v : Value} {f : Option (Nat × Nat × Nat)} (h : FaultAt w B A v f) : ∀ j ∈ fb v, B ≤ j ∧ j < w.heap.size := by
  intro j hj
  cases f with
  | none => simp only [FaultAt] at h; subst h; simp [fb] at hj
  | some f =>
    obtain ⟨l, c, e⟩ := f
    obtain ⟨_, g, hg, rfl, hh⟩ := h
    simp only [fb, List.mem_singleton] at hj
    subst hj
    exact ⟨hg, blt hh⟩
theorem ErrAt.fr {B : Nat} {v : Value} {f : Option (Nat × Nat × Nat)} {w w' : World} (h : ErrAt w B A b v f) (k : Fr b w w') : ErrAt w' B A b v f := by
  have hlt := err_lt h.1
  exact ⟨faultAt_kept h.1 fun j hj => k.keep j (hlt j hj).2 (h.2 j hj), fun j hj hw => by
    rcases k.own j hw with e | e
    · exact h.2 j hj e
    · have := (hlt j hj).2; omega⟩
/-- what a Close leaves -/
def Ended (A : Nat → Addr) (W0 W : World) (b : Nat) (s : RS) (e : Ending) (w' : World) : Prop :=
  ∃ vl ve, e = .returned (.tuple #[vl, ve]) ∧ R A W0 w' b (RS.fail { s with rows := [] } 0 0 9) ∧ ToldAt W0 w' b vl s.rows ∧ ErrAt w' W.heap.size A b ve s.fault ∧ Fr b W w' ∧ Src W b vl w'
theorem ended_of {w1 w2 w3 : World} {vl ve : Value} (hF : Fr b W w1) (h : Fed A W0 w1 b s (.returned (.tuple #[vl, ve])) w2) (h3 : R A W0 w3 b (RS.fail { s with rows := [] } 0 0 9)) (k : Fr b w2 w3) : Ended A W0 W b s (.returned (.tuple #[vl, ve])) w3 := by
  obtain ⟨vl', ve', e, h4, h5, h6, h7, h8⟩ := fed_mono h hF
  have e1 : vl = vl' ∧ ve = ve' := by simpa using e
  obtain ⟨rfl, rfl⟩ := e1
  refine ⟨vl, ve, rfl, h3, h5.fr k, h6.fr k, h7.trans k, fun j hj => h8 j ?_⟩
  rcases hj with hj | ⟨g, n, c, i, u, e, q1, q2, q3⟩
  · exact .inl hj
  · obtain ⟨lv, o1, o2, o3, o4⟩ := h5
    have hg : g ∈ ob vl ++ lv.flatMap ob := List.mem_append_left _ (mem_ob.2 (by rw [e]; rfl))
    exact .inr ⟨g, n, c, i, u, e, q1, (World.cell?_of_block (w := w2) (k.keep g (ToldAt.lt o1 o2 g hg).2 (o4 g hg))).symm.trans q2, q3⟩
set_option maxHeartbeats 8000000 in
set_option maxRecDepth 100000 in
theorem close_r (hF : SF W0 A) (hE : ET W0) (hR : R A W0 W b s) (hL : s.Live) : Calls Tryz.prog 9 #[PT b] W (Ended A W0 W b s.fin) := by
  obtain ⟨vc, vr, vl, fl, lv, h⟩ := hR
  have HF := Lib.hid hF
  have HE := Lib.hid hE
  by_cases hf : s.fault = none
  · have hi := hL hf
    have hflt := h.flt
    rw [hf] at hflt
    simp only [FaultAt] at hflt
    subst hflt
    obtain ⟨F, hF0, hcf, hO⟩ := over_r hF hi.bd (by have := hi.all; omega) (R.mk h)
    unfold Enters at hcf
    have HO := Lib.hid hO
    obtain ⟨-, -, -, -, -, -, -, -, -, -, -, -, c12⟩ := h.cells
    have c1 : W.cell? ⟨b, 1, none⟩ = some (.func (.func F) #[PT b] #[]) := by rw [← hF0]; exact (bcell h.blk 1).trans rfl
    have hfin : s.fin = s.over := if_pos hf
    rw [hfin]
    clear h hF hE hL hi hF0 hO hf hfin
    go_enter Tryz.func9, Tryz.ntmps9
    go_wp2_with ((with_reducible refine HO.out.mono ?_); rintro e w1 ⟨rfl, hR1, hF1⟩; have HR1 := Lib.hid hR1; have HF1 := Lib.hid hF1; clear hR1 hF1)
    clear c12 c1
    obtain ⟨vc2, vr2, vl2, fl2, lv2, h2⟩ := HR1.out
    obtain ⟨-, -, -, -, -, -, -, -, -, -, -, -, c12⟩ := h2.cells
    obtain ⟨_, hT, hA⟩ := h2.ends HE.out
    have HT := Lib.hid hT
    have HA := Lib.hid hA
    have H2 := Lib.hid h2
    clear hT hA h2
    go_region_with (first
      | (go_at_call 37; (with_reducible refine HT.out.mono ?_); rintro e w3 ⟨rfl, rfl⟩)
      | (go_at_call 38; (with_reducible refine HA.out.mono ?_); rintro e w3 ⟨ve, rfl, hv, hb3⟩; have HV := Lib.hid hv; have HB3 := Lib.hid hb3; clear hv hb3))
    all_goals
      simp only [List.getElem_toArray, List.getElem_cons_succ, List.getElem_cons_zero, Act.put, List.setIfInBounds_toArray, List.set_cons_zero, List.set_cons_succ]
      have HFed := Lib.hid (fed_of H2.out HV.out HB3.out)
      obtain ⟨_, _, _, hR5, _⟩ := HFed.out
      obtain ⟨vc5, vr5, vl5, fl5, lv5, h5⟩ := hR5
      obtain ⟨-, -, -, -, -, -, -, -, -, -, -, -, d12⟩ := h5.cells
      obtain ⟨-, -, -, -, -, -, -, -, -, -, -, -, f12⟩ := h5.free
      have gD : w3.cell? ⟨4, 0, none⟩ = some (errV A 9) := h5.gl HF.out 9 (cod (by omega))
      have h6 := h5.fault 0 0 9 (cod (by omega))
      have hf6 : Fr b w3 _ := h5.fr h6 rfl rfl rfl (by rw [setSize]; simp) (fun j hj hn _ _ _ => (Below.heap_setCell _ ⟨b, 12, none⟩ _ j hn).trans (Below.heap_alloc _ _ j hj)) (fun j hj => .inl hj)
      rw [World.setCell_alloc_past _ _ _ _ h5.lt] at h6 hf6
      have H6 := Lib.hid h6
      have HF6 := Lib.hid hf6
      have hlt5 := h5.lt
      clear h5 h6 hf6
      go_wp2
      go_ret2
      exact ended_of HF1.out HFed.out (R.mk H6.out) HF6.out
  · have hflt := h.flt
    obtain ⟨f, hf'⟩ := Option.ne_none_iff_exists'.1 hf
    obtain ⟨fl, fc, fe⟩ := f
    rw [hf'] at hflt
    obtain ⟨_, fg, _, rfl, _⟩ := hflt
    have hfin : s.fin = s := if_neg hf
    rw [hfin]
    obtain ⟨-, -, -, -, -, -, -, -, -, -, -, -, c12⟩ := h.cells
    have h2 := h
    have HF1 := Lib.hid (Fr.refl b W)
    clear h hF hE hL hf' hf hfin
    go_enter Tryz.func9, Tryz.ntmps9
    go_wp2
    obtain ⟨_, hT, hA⟩ := h2.ends HE.out
    have HT := Lib.hid hT
    have HA := Lib.hid hA
    have H2 := Lib.hid h2
    clear hT hA h2
    go_region_with (first
      | (go_at_call 37; (with_reducible refine HT.out.mono ?_); rintro e w3 ⟨rfl, rfl⟩)
      | (go_at_call 38; (with_reducible refine HA.out.mono ?_); rintro e w3 ⟨ve, rfl, hv, hb3⟩; have HV := Lib.hid hv; have HB3 := Lib.hid hb3; clear hv hb3))
    all_goals
      simp only [List.getElem_toArray, List.getElem_cons_succ, List.getElem_cons_zero, Act.put, List.setIfInBounds_toArray, List.set_cons_zero, List.set_cons_succ]
      have HFed := Lib.hid (fed_of H2.out HV.out HB3.out)
      obtain ⟨_, _, _, hR5, _⟩ := HFed.out
      obtain ⟨vc5, vr5, vl5, fl5, lv5, h5⟩ := hR5
      obtain ⟨-, -, -, -, -, -, -, -, -, -, -, -, d12⟩ := h5.cells
      obtain ⟨-, -, -, -, -, -, -, -, -, -, -, -, f12⟩ := h5.free
      have gD : w3.cell? ⟨4, 0, none⟩ = some (errV A 9) := h5.gl HF.out 9 (cod (by omega))
      have h6 := h5.fault 0 0 9 (cod (by omega))
      have hf6 : Fr b w3 _ := h5.fr h6 rfl rfl rfl (by rw [setSize]; simp) (fun j hj hn _ _ _ => (Below.heap_setCell _ ⟨b, 12, none⟩ _ j hn).trans (Below.heap_alloc _ _ j hj)) (fun j hj => .inl hj)
      rw [World.setCell_alloc_past _ _ _ _ h5.lt] at h6 hf6
      have H6 := Lib.hid h6
      have HF6 := Lib.hid hf6
      have hlt5 := h5.lt
      clear h5 h6 hf6
      go_wp2
      go_ret2
      exact ended_of HF1.out HFed.out (R.mk H6.out) HF6.out
end Go.Proofs.YtappphffbnkloaaGreatDoor.Sht
set_option linter.unusedVariables false
set_option linter.unusedSimpArgs false
namespace Go.Proofs.YtappphffbnkloaaGreatDoor.Sht
open Go Go.RowKit Go.Joins
attribute [local go_sem ↓] Go.wp_at_zero Go.wp_at_succ
variable {A : Nat → Addr} {W0 W : World} {b : Nat} {s : RS}
def GoodRows (B : Nat) (w : World) (v : Value) (rs : Rows) : Prop := ∃ lv, w.ownsRow B 28 1 v rs.length lv ∧ RowsAt w B lv rs
theorem R.wr_lt (h : R A W0 W b s) {j : Nat} (hj : wr W b j) : j < W.heap.size := by
  obtain ⟨_, _, _, _, _, h⟩ := h
  rw [h.wr_iff] at hj
  have hl := h.all_lt
  rcases hj with e | e | e | e
  · exact e ▸ h.lt
  · exact hl j (by simp only [List.mem_cons, List.mem_append]; exact .inr (.inl (mem_ob.2 e)))
  · exact hl j (by simp only [List.mem_cons, List.mem_append]; exact .inr (.inr (.inl (mem_ob.2 e))))
  · exact hl j (by simp only [List.mem_cons, List.mem_append]; exact .inr (.inr (.inr (.inl (mem_ob.2 e)))))
theorem R.lt (h : R A W0 W b s) : b < W.heap.size := h.wr_lt (.inl rfl)
theorem R.below (h : R A W0 W b s) {w' : World} (k : Below W.heap.size W w') : R A W0 w' b s := by
  obtain ⟨_, _, _, _, _, h⟩ := h
  exact R.mk (h.kept (k.mono h.below.size) (fun j hj => k.block j (h.all_lt j hj)))
theorem R.base (h : R A W0 W b s) : Below W0.heap.size W0 W := by
  obtain ⟨_, _, _, _, _, h⟩ := h
  exact h.below
theorem live_told (h : s.Live) : RS.Live { s with rows := [] } := fun e => ⟨(h e).all, ⟨(h e).bd.line, (h e).bd.col, (h e).bd.all, (h e).bd.ml, (h e).bd.mc, (h e).bd.cell, (h e).bd.row, Nat.zero_le _, (h e).bd.count, (h e).bd.width⟩, (h e).bk⟩
theorem kind_row {w : World} {B : Nat} {e : TypeId} {v : Value} {n : Nat} {xs : List Value} (h : w.ownsRow B e 1 v n xs) : ∀ j, v.ownBlock = some j → ∃ cs, w.heap[j]? = some (.cells cs e (0, 0)) := by
  intro j hj
  rcases h.2 with ⟨rfl, _⟩ | ⟨g, cap, cur, rfl, _, hh, _⟩
  · simp [Value.ownBlock] at hj
  · simp only [Value.ownBlock, Option.some.injEq] at hj
    subst hj
    exact ⟨cur, hh⟩
theorem kind_rows {w : World} {B : Nat} : ∀ {lv : List Value} {rs : Rows}, RowsAt w B lv rs → ∀ j ∈ lv.flatMap ob, ∃ cs, w.heap[j]? = some (.cells cs 9 (0, 0))
  | [], _, _, j, hj => by simp at hj
  | v :: lv, r :: rs, h, j, hj => by
    simp only [List.flatMap_cons, List.mem_append] at hj
    rcases hj with hj | hj
    · exact kind_row h.1 j (mem_ob.1 hj)
    · exact kind_rows h.2 j hj
  | _ :: _, [], h, _, _ => h.elim
end Go.Proofs.YtappphffbnkloaaGreatDoor.Sht
set_option linter.unusedVariables false
set_option linter.unusedSimpArgs false
namespace Go.Proofs.YtappphffbnkloaaGreatDoor.Sht.Qd
/-- a state but for its places -/
structure At (m : Md) (c : List UInt8) (r : List (List UInt8)) (rs : Rows) (n w a : Nat) (s : RS) : Prop where
  md : s.md = m
  cell : s.cell = c
  row : s.row = r
  rows : s.rows = rs
  count : s.count = n
  width : s.width = w
  fault : s.fault = none
  all : s.all ≤ a
section
variable {m m' : Md} {c c' : List UInt8} {r r' : List (List UInt8)} {rs rs' : Rows} {n n' w w' a a' : Nat} {s : RS} {x : UInt8}
theorem At.on (h : At m c r rs n w a s) (x : UInt8) : At m c r rs n w a (s.on x) := by
  unfold RS.on
  split <;> exact ⟨h.md, h.cell, h.row, h.rows, h.count, h.width, h.fault, h.all⟩
theorem At.more (h : At m c r rs n w a s) (k : a ≤ a') : At m c r rs n w a' s := ⟨h.md, h.cell, h.row, h.rows, h.count, h.width, h.fault, Nat.le_trans h.all k⟩
theorem At.step (h : At m c r rs n w a s) (ha : a < 262144) (k : ∀ s', At m c r rs n w (a + 1) s' → At m' c' r' rs' n' w' a' (s'.next x)) : At m' c' r' rs' n' w' a' (s.step x) := by
  unfold RS.step
  rw [if_neg (by have := h.all; omega)]
  exact (k { s with all := s.all + 1 } ⟨h.md, h.cell, h.row, h.rows, h.count, h.width, h.fault, by show s.all + 1 ≤ a + 1; have := h.all; omega⟩).on x
theorem At.comma (h : At m c r rs n w a s) (hl : r.length < 63) : At .start [] (r ++ [c]) rs n w a s.comma := by
  unfold RS.comma
  rw [if_neg (by show ¬ (s.row ++ [s.cell]).length = 64; rw [h.row]; simp; omega)]
  exact ⟨rfl, rfl, by show s.row ++ [s.cell] = _; rw [h.row, h.cell], h.rows, h.count, h.width, h.fault, h.all⟩
theorem At.turn (h : At m c r rs n w a s) (m' : Md) : At m' c r rs n w a (s.turn m') := ⟨rfl, h.cell, h.row, h.rows, h.count, h.width, h.fault, h.all⟩
theorem At.put (h : At m c r rs n w a s) (hl : c.length < 4096) : At m (c ++ [x]) r rs n w a (s.put x) := by
  unfold RS.put
  rw [if_neg (by rw [h.cell]; simp; omega)]
  exact ⟨h.md, by show s.cell ++ [x] = _; rw [h.cell], h.row, h.rows, h.count, h.width, h.fault, h.all⟩
theorem next_beg (h : At m c r rs n w a s) (hm : m = .fresh ∨ m = .start) (hn : n ≠ 4096) : s.next x = s.start x := by
  unfold RS.next
  rw [h.md]
  rcases hm with rfl | rfl
  · show s.fresh x = _
    unfold RS.fresh
    rw [if_neg (by rw [h.count]; exact hn)]
  · rfl
theorem next_quoted (h : At .quoted c r rs n w a s) : s.next x = s.quoted x := by unfold RS.next; rw [h.md]
theorem next_closed (h : At .closed c r rs n w a s) : s.next x = s.closed x := by unfold RS.next; rw [h.md]
theorem next_plain (h : At .plain c r rs n w a s) : s.next x = s.plain x := by unfold RS.next; rw [h.md]
end
theorem commas : ∀ k, k ≤ 60 → ∃ m, (m = Md.fresh ∨ m = .start) ∧ At m [] (List.replicate k []) [] 0 0 k (RS.new.feed (List.replicate k 44))
  | 0, _ => ⟨.fresh, .inl rfl, ⟨rfl, rfl, rfl, rfl, rfl, rfl, rfl, Nat.le_refl _⟩⟩
  | k + 1, hk => by
    obtain ⟨m, hm, h⟩ := commas k (by omega)
    refine ⟨.start, .inr rfl, ?_⟩
    rw [List.replicate_succ', List.replicate_succ', feed_snoc _ _ _ h.fault]
    refine h.step (by omega) fun s' h' => ?_
    rw [next_beg h' hm (by decide)]
    exact (h'.turn .plain).comma (by simp; omega)
theorem begin_quoted {m : Md} {r : List (List UInt8)} {a : Nat} {s : RS} (h : At m [] r [] 0 0 a s) (hm : m = .fresh ∨ m = .start) (ha : a < 262144) : At .quoted [] r [] 0 0 (a + 1) (s.step 34) :=
  h.step ha fun s' h' => by
    rw [next_beg h' hm (by decide)]
    exact ⟨rfl, h'.cell, h'.row, h'.rows, h'.count, h'.width, h'.fault, h'.all⟩
def esc : List UInt8 → List UInt8
  | [] => []
  | x :: l => if x = 34 then 34 :: 34 :: esc l else x :: esc l
theorem esc_app : ∀ l m, esc (l ++ m) = esc l ++ esc m
  | [], _ => rfl
  | x :: l, m => by
    rw [List.cons_append]
    show (if x = 34 then 34 :: 34 :: esc (l ++ m) else x :: esc (l ++ m)) = (if x = 34 then 34 :: 34 :: esc l else x :: esc l) ++ esc m
    rw [esc_app l m]
    split <;> rfl
theorem run_q {r : List (List UInt8)} {rs : Rows} {n w : Nat} : ∀ (l : List UInt8) (c : List UInt8) (a : Nat) (s : RS), At .quoted c r rs n w a s → (∀ x ∈ l, okB x = true) → c.length + l.length ≤ 4096 → a + 2 * l.length ≤ 262144 →
    At .quoted (c ++ l) r rs n w (a + 2 * l.length) (s.feed (esc l))
  | [], c, a, s, h, _, _, _ => by simpa [esc, RS.feed] using h
  | x :: l, c, a, s, h, ho, hl, ha => by
    simp only [List.length_cons] at hl ha
    have hx := ho x List.mem_cons_self
    have ho' : ∀ y ∈ l, okB y = true := fun y hy => ho y (List.mem_cons_of_mem _ hy)
    unfold esc
    by_cases e : x = 34
    · rw [if_pos e, feed_cons h.fault]
      have h1 : At .closed c r rs n w (a + 1) (s.step 34) := h.step (by omega) fun s' h' => by
        rw [next_quoted h']
        exact h'.turn .closed
      rw [feed_cons h1.fault]
      have h2 : At .quoted (c ++ [34]) r rs n w (a + 2) ((s.step 34).step 34) := h1.step (by omega) fun s' h' => by
        rw [next_closed h']
        exact (h'.turn .quoted).put (by omega)
      have := run_q l _ _ _ h2 ho' (by simp; omega) (by omega)
      subst e
      simpa [Nat.mul_add, Nat.add_assoc, Nat.add_comm, Nat.add_left_comm] using this
    · rw [if_neg e, feed_cons h.fault]
      have h1 : At .quoted (c ++ [x]) r rs n w (a + 1) (s.step x) := h.step (by omega) fun s' h' => by
        rw [next_quoted h']
        unfold RS.quoted
        rw [if_neg e, if_neg (by rw [hx]; decide)]
        exact h'.put (by omega)
      have := run_q l _ _ _ h1 ho' (by simp; omega) (by omega)
      refine At.more (by simpa using this) (by simp; omega)
/-- up to the cell's end -/
theorem upto (n : Nat) (hn : n ≤ 60) (l : List UInt8) (ho : ∀ x ∈ l, okB x = true) (hl : l.length ≤ 4096) :
    At .quoted l (List.replicate n []) [] 0 0 (n + 1 + 2 * l.length) (RS.new.feed (List.replicate n 44 ++ (34 :: esc l))) := by
  obtain ⟨m, hm, h⟩ := commas n hn
  have h1 := begin_quoted h hm (by omega)
  rw [feed_app, feed_cons h.fault]
  have := run_q l [] _ _ h1 ho (by simpa using hl) (by omega)
  simpa using this
end Go.Proofs.YtappphffbnkloaaGreatDoor.Sht.Qd
set_option linter.unusedVariables false
set_option linter.unusedSimpArgs false
namespace Go.Proofs.YtappphffbnkloaaGreatDoor.Sht
open Qd
/-- must a cell with this byte be quoted? -/
def spec (x : UInt8) : Bool := x == 44 || x == 34 || x == 13 || x == 10 || x == 9
def cellO (c : List UInt8) : List UInt8 := if c.any spec then 34 :: (esc c ++ [34]) else c
def tailO : List (List UInt8) → List UInt8
  | [] => []
  | c :: l => 44 :: (cellO c ++ tailO l)
def cellsO : List (List UInt8) → List UInt8
  | [] => []
  | c :: l => cellO c ++ tailO l
def rowO (r : List (List UInt8)) : List UInt8 := cellsO r ++ [13, 10]
def textO : Rows → List UInt8
  | [] => []
  | r :: l => rowO r ++ textO l
theorem tailO_app : ∀ l m, tailO (l ++ m) = tailO l ++ tailO m
  | [], _ => rfl
  | c :: l, m => by
    rw [List.cons_append]
    show 44 :: (cellO c ++ tailO (l ++ m)) = (44 :: (cellO c ++ tailO l)) ++ tailO m
    rw [tailO_app l m]; simp
theorem cellsO_snoc (l : List (List UInt8)) (c : List UInt8) : cellsO (l ++ [c]) = cellsO l ++ ((if l = [] then [] else [44]) ++ cellO c) := by
  cases l with
  | nil => show cellO c ++ [] = [] ++ ([] ++ cellO c); simp
  | cons d l =>
    rw [if_neg (by simp), List.cons_append]
    show cellO d ++ tailO (l ++ [c]) = (cellO d ++ tailO l) ++ ([44] ++ cellO c)
    rw [tailO_app]
    show cellO d ++ (tailO l ++ (44 :: (cellO c ++ []))) = _
    simp
theorem textO_app : ∀ l m, textO (l ++ m) = textO l ++ textO m
  | [], _ => rfl
  | r :: l, m => by
    rw [List.cons_append]
    show rowO r ++ textO (l ++ m) = (rowO r ++ textO l) ++ textO m
    rw [textO_app l m]; simp
theorem textO_snoc (l : Rows) (r : List (List UInt8)) : textO (l ++ [r]) = textO l ++ rowO r := by
  rw [textO_app]; show _ ++ (rowO r ++ []) = _; simp
/-- a row that may be -/
structure RowOk (w : Nat) (r : List (List UInt8)) : Prop where
  pos : 0 < r.length
  few : r.length ≤ 64
  wid : r.length = w
  cells : ∀ c ∈ r, c.length ≤ 4096 ∧ ∀ x ∈ c, okB x = true
section
variable {r : List (List UInt8)} {rs : Rows} {n w : Nat}
/-- a cell stands, its end to come -/
structure EndC (c : List UInt8) (r : List (List UInt8)) (rs : Rows) (n w a : Nat) (s : RS) : Prop where
  at_ : ∃ m, At m c r rs n w a s ∧ (m = .plain ∨ m = .closed ∨ ((m = .fresh ∨ m = .start) ∧ c = [] ∧ n ≠ 4096))
theorem EndC.comma {c : List UInt8} {a : Nat} {s : RS} (h : EndC c r rs n w a s) (hr : r.length < 63) (ha : a < 262144) : At .start [] (r ++ [c]) rs n w (a + 1) (s.step 44) := by
  obtain ⟨m, hA, hm⟩ := h.at_
  refine hA.step ha fun s' h' => ?_
  rcases hm with rfl | rfl | ⟨hm, rfl, hn⟩
  · rw [next_plain h']; exact h'.comma hr
  · rw [next_closed h']; exact h'.comma hr
  · rw [Qd.next_beg h' hm hn]; exact (h'.turn .plain).comma hr
theorem at_cr {m : Md} {c : List UInt8} {a : Nat} {s : RS} (h : At m c r rs n w a s) : At .back [] (r ++ [c]) rs n w a s.cr :=
  ⟨rfl, rfl, by show s.row ++ [s.cell] = _; rw [h.row, h.cell], h.rows, h.count, h.width, h.fault, h.all⟩
theorem EndC.cr {c : List UInt8} {a : Nat} {s : RS} (h : EndC c r rs n w a s) (ha : a < 262144) : At .back [] (r ++ [c]) rs n w (a + 1) (s.step 13) := by
  obtain ⟨m, hA, hm⟩ := h.at_
  refine hA.step ha fun s' h' => ?_
  rcases hm with rfl | rfl | ⟨hm, rfl, hn⟩
  · rw [next_plain h']; exact at_cr h'
  · rw [next_closed h']; exact at_cr h'
  · rw [Qd.next_beg h' hm hn]; exact at_cr (h'.turn .plain)
end
end Go.Proofs.YtappphffbnkloaaGreatDoor.Sht
set_option linter.unusedVariables false
set_option linter.unusedSimpArgs false
namespace Go.Proofs.YtappphffbnkloaaGreatDoor.Sht
open Go Go.RowKit
abbrev RW : TypeId := 144
abbrev BdAt (B b : Nat) (p : Value) (bs : List Value) (w : World) : Prop := Lib.BuilderAt RW 5 B b p bs w
abbrev IsBd (B b : Nat) (bs : List Value) (w : World) : Prop := Lib.IsBuilder RW 5 B b bs w
section
variable {B b : Nat} {bs : List Value} {w : World}
theorem cellsByte : Tryz.prog.cellsOf 5 = 1 := by kernel_rfl
end
end Go.Proofs.YtappphffbnkloaaGreatDoor.Sht
set_option linter.unusedVariables false
set_option linter.unusedSimpArgs false
namespace Go.Proofs.YtappphffbnkloaaGreatDoor.Sht
open Go.RowKit Go.Proofs.YtappphffbnkloaaGreatDoorW.PrintWords

section
variable (w : World)
end
end Go.Proofs.YtappphffbnkloaaGreatDoor.Sht
set_option linter.unusedVariables false
set_option linter.unusedSimpArgs false
namespace Go.Proofs.YtappphffbnkloaaGreatDoor.Sht
open Go Go.RowKit Qd
attribute [local go_sem ↓] Go.wp_at_zero Go.wp_at_succ
/-- bytealg.MaxLen, whatever it holds -/
def ML (w : World) : Prop := ∃ m, w.cell? ⟨22, 0, none⟩ = some (.int .i64 m)
theorem ML.below {w w' : World} (h : ML w) {B : Nat} (k : Below B w w') (hB : 22 < B) : ML w' := by
  obtain ⟨m, h⟩ := h
  exact ⟨m, (k.cell (p := ⟨22, 0, none⟩) hB).trans h⟩
theorem ML.lt {w : World} (h : ML w) : 22 < w.heap.size := by
  obtain ⟨m, h⟩ := h
  exact World.block_lt_of_cell? w _ h
theorem IsBd.below {B b : Nat} {bs : List Value} {w w' : World} (h : IsBd B b bs w) (k : Below w.heap.size w w') : IsBd B b bs w' := by
  have one : ∀ p, BdAt B b p bs w → BdAt B b p bs w' := by
    rintro p ⟨hB, v, hb, hown, hne⟩
    refine ⟨hB, v, (k.block b (Array.getElem?_eq_some_iff.1 hb).1).trans hb, ?_, hne⟩
    obtain ⟨h1, h2⟩ := hown
    refine ⟨h1, ?_⟩
    rcases h2 with h2 | ⟨g, cap, cur, hv, hg, hh, q⟩
    · exact .inl h2
    · exact .inr ⟨g, cap, cur, hv, hg, (k.block g (Array.getElem?_eq_some_iff.1 hh).1).trans hh, q⟩
  rcases h with h | h
  · exact .inl (one _ h)
  · exact .inr (one _ h)
theorem IsBd.lt {B b : Nat} {bs : List Value} {w : World} (h : IsBd B b bs w) : b < w.heap.size := by
  rcases h with h | h <;> exact h.lt
/-- a builder holds these bytes -/
def Bld (B b : Nat) (l : List UInt8) (w : World) : Prop := IsBd B b (Lib.byteCells l) w ∧ B ≤ w.heap.size
theorem Bld.below {B b : Nat} {l : List UInt8} {w w' : World} (h : Bld B b l w) (k : Below w.heap.size w w') : Bld B b l w' := ⟨h.1.below k, Nat.le_trans h.2 k.size⟩
end Go.Proofs.YtappphffbnkloaaGreatDoor.Sht
set_option linter.unusedVariables false
set_option linter.unusedSimpArgs false
namespace Go.Proofs.YtappphffbnkloaaGreatDoor.Sht
open Go Go.RowKit Qd
attribute [local go_sem ↓] Go.wp_at_zero Go.wp_at_succ
/-- rows of texts in memory, whatever else lies there -/
def RowIn (w : World) (v : Value) (r : List (List UInt8)) : Prop :=
  ∃ x cap, v = .slice x r.length cap ∧ r.length ≤ 9223372036854775807 ∧ ∀ i (h : i < r.length), ∃ a : Addr, x = some a ∧ w.cell? (a.add i) = some (st r[i])
def RowsIn (w : World) (v : Value) (rs : Rows) : Prop :=
  ∃ x cap, v = .slice x rs.length cap ∧ rs.length ≤ 9223372036854775807 ∧ ∀ i (h : i < rs.length), ∃ (a : Addr) (u : Value), x = some a ∧ w.cell? (a.add i) = some u ∧ RowIn w u rs[i]
theorem RowIn.below {w w' : World} {v : Value} {r : List (List UInt8)} (h : RowIn w v r) (k : Below w.heap.size w w') : RowIn w' v r := by
  obtain ⟨x, cap, h1, h2, h3⟩ := h
  refine ⟨x, cap, h1, h2, fun i hi => ?_⟩
  obtain ⟨a, q1, q2⟩ := h3 i hi
  exact ⟨a, q1, (k.cell (World.block_lt_of_cell? _ _ q2)).trans q2⟩
theorem RowsIn.below {w w' : World} {v : Value} {rs : Rows} (h : RowsIn w v rs) (k : Below w.heap.size w w') : RowsIn w' v rs := by
  obtain ⟨x, cap, h1, h2, h3⟩ := h
  refine ⟨x, cap, h1, h2, fun i hi => ?_⟩
  obtain ⟨a, u, q1, q2, q3⟩ := h3 i hi
  exact ⟨a, u, q1, (k.cell (World.block_lt_of_cell? _ _ q2)).trans q2, q3.below k⟩
theorem belowN {B : Nat} {w w' : World} (h : Below B w w') (n : Nat) : Below B w (w'.drewN n) := ⟨h.os, h.tape, h.output, h.size, h.block⟩
end Go.Proofs.YtappphffbnkloaaGreatDoor.Sht
set_option linter.unusedVariables false
set_option linter.unusedSimpArgs false
namespace Go.Proofs.YtappphffbnkloaaGreatDoor.Sht
open Go Go.RowKit Qd
attribute [local go_sem ↓] Go.wp_at_zero Go.wp_at_succ
end Go.Proofs.YtappphffbnkloaaGreatDoor.Sht
set_option linter.unusedVariables false
set_option linter.unusedSimpArgs false
namespace Go.Proofs.YtappphffbnkloaaGreatDoor.Sht
open Go Go.RowKit
attribute [local go_sem ↓] Go.wp_at_zero Go.wp_at_succ
set_option maxHeartbeats 4000000 in
set_option maxRecDepth 100000 in
theorem texts_r (r : List (List UInt8)) (v1 v2 : Value) (w : World) (h1 : RowIn w v1 r) (h2 : RowIn w v2 r) : Calls Tryz.prog 42 #[v1, v2] w fun e w' => e = .returned (.bool true) ∧ Below w.heap.size w w' := by
  obtain ⟨x, cap, rfl, hlen, hx⟩ := h1
  obtain ⟨x', cap', rfl, _, hx'⟩ := h2
  have HX := Lib.hid hx
  have HX' := Lib.hid hx'
  clear hx hx'
  go_enter Tryz.func42, Tryz.ntmps42
  go_wp2
  go_loopw [5] (fun i wr => ∃ k : Nat, k ≤ r.length ∧ i = .int .i64 (k : Int) ∧ Hid (Below w.heap.size w wr)) (fun i _ => r.length - (intOf i).toNat)
  case atStart => exact ⟨0, Nat.zero_le _, rfl, Lib.hid (Below.refl _ _)⟩
  case round =>
    obtain ⟨k, hk, rfl, HB⟩ := hrel
    by_cases hlt : k < r.length
    · obtain ⟨a, rfl, hc⟩ := HX.out k hlt
      obtain ⟨b, rfl, hd⟩ := HX'.out k hlt
      obtain ⟨s, hs⟩ : ∃ s, s = (⟨r[k].toArray⟩ : ByteArray) := ⟨_, rfl⟩
      have c1 : wr.cell? (a.add k) = some (.string s) := by rw [hs]; exact (HB.out.cell (World.block_lt_of_cell? _ _ hc)).trans hc
      have c2 : wr.cell? (b.add k) = some (.string s) := by rw [hs]; exact (HB.out.cell (World.block_lt_of_cell? _ _ hd)).trans hd
      clear hc hd hs
      go_wp2
      go_quiet (fail)
      go_wp2
      go_roundw
      case rel => exact ⟨k + 1, by omega, by go_num, Lib.hid (belowN HB.out _)⟩
      case measure => simp [intOf]; omega
    · obtain rfl : k = r.length := by omega
      go_wp2
      go_ret
      exact ⟨rfl, HB.out⟩
set_option maxHeartbeats 4000000 in
set_option maxRecDepth 100000 in
theorem same_r2 (rs : Rows) (v1 v2 : Value) (w : World) (h1 : RowsIn w v1 rs) (h2 : RowsIn w v2 rs) : Calls Tryz.prog 12 #[v1, v2] w fun e w' => e = .returned (.bool true) ∧ Below w.heap.size w w' := by
  obtain ⟨x, cap, rfl, hlen, hx⟩ := h1
  obtain ⟨x', cap', rfl, _, hx'⟩ := h2
  have HX := Lib.hid hx
  have HX' := Lib.hid hx'
  clear hx hx'
  go_enter Tryz.func12, Tryz.ntmps12
  go_wp2
  go_loopw [5] (fun i wr => ∃ k : Nat, k ≤ rs.length ∧ i = .int .i64 (k : Int) ∧ Hid (Below w.heap.size w wr)) (fun i _ => rs.length - (intOf i).toNat)
  case atStart => exact ⟨0, Nat.zero_le _, rfl, Lib.hid (Below.refl _ _)⟩
  case round =>
    obtain ⟨k, hk, rfl, HB⟩ := hrel
    by_cases hlt : k < rs.length
    · obtain ⟨a, u, rfl, hc, hu⟩ := HX.out k hlt
      obtain ⟨b, u', rfl, hd, hu'⟩ := HX'.out k hlt
      have c1 : wr.cell? (a.add k) = some u := (HB.out.cell (World.block_lt_of_cell? _ _ hc)).trans hc
      have c2 : wr.cell? (b.add k) = some u' := (HB.out.cell (World.block_lt_of_cell? _ _ hd)).trans hd
      have HT := Lib.hid (texts_r _ _ _ wr.drew (hu.below HB.out.drew) (hu'.below HB.out.drew))
      clear hc hd
      obtain ⟨y, capy, rfl, _, _⟩ := hu
      obtain ⟨y', capy', rfl, _, _⟩ := hu'
      go_wp2
      go_region_with (go_at_call 42; (with_reducible refine HT.out.mono ?_); rintro e w2 ⟨rfl, b2⟩; have B2 := Lib.hid (HB.out.drew.trans (b2.mono HB.out.size)); clear b2)
      all_goals
        go_wp2
        go_roundw
        case rel => exact ⟨k + 1, by omega, by go_num, B2⟩
        case measure => simp [intOf]; omega
    · obtain rfl : k = rs.length := by omega
      go_wp2
      go_ret
      exact ⟨rfl, HB.out⟩
end Go.Proofs.YtappphffbnkloaaGreatDoor.Sht
set_option linter.unusedVariables false
set_option linter.unusedSimpArgs false
namespace Go.Proofs.YtappphffbnkloaaGreatDoor.Sht
open Go Go.RowKit
attribute [local go_sem ↓] Go.wp_at_zero Go.wp_at_succ
theorem maxLen_le {n : Nat} (h : n ≤ maxLen) : n ≤ 9223372036854775807 := by unfold maxLen at h; exact h
theorem rowIn_own {w : World} {B : Nat} {v : Value} {r : List (List UInt8)} (h : w.ownsRow B 9 1 v r.length (sts r)) : RowIn w v r := by
  rcases h.2 with ⟨rfl, h0⟩ | ⟨g, cap, cur, rfl, _, _, h1, h2, _⟩
  · exact ⟨none, 0, by rw [h0], by omega, fun i hi => absurd hi (by omega)⟩
  · refine ⟨_, cap, rfl, maxLen_le (Nat.le_trans h1 h2), fun i hi => ⟨_, rfl, ?_⟩⟩
    exact h.cells (g := g) rfl i _ (by simp [sts, hi])
theorem rowsAt_get {w : World} {B : Nat} : ∀ {lv : List Value} {rs : Rows}, RowsAt w B lv rs → lv.length = rs.length ∧ ∀ (j : Nat) (hj : j < rs.length), ∃ v, lv[j]? = some v ∧ w.ownsRow B 9 1 v rs[j].length (sts rs[j])
  | [], [], _ => ⟨rfl, fun j h => absurd h (by simp)⟩
  | v :: lv, r :: rs, h => by
    obtain ⟨h1, h2⟩ := rowsAt_get h.2
    refine ⟨by simp [h1], fun j hj => ?_⟩
    cases j with
    | zero => exact ⟨v, rfl, h.1⟩
    | succ j => exact h2 j (by simpa using hj)
  | [], _ :: _, h => h.elim
  | _ :: _, [], h => h.elim
theorem rowsIn_good {w : World} {B : Nat} {v : Value} {rs : Rows} (h : GoodRows B w v rs) : RowsIn w v rs := by
  obtain ⟨lv, h1, h2⟩ := h
  obtain ⟨h3, h4⟩ := rowsAt_get h2
  rcases h1.2 with ⟨rfl, h0⟩ | ⟨g, cap, cur, rfl, _, _, q1, q2, _⟩
  · exact ⟨none, 0, by rw [h0], by omega, fun i hi => absurd hi (by omega)⟩
  · refine ⟨_, cap, rfl, maxLen_le (Nat.le_trans q1 q2), fun i hi => ?_⟩
    obtain ⟨u, hu, hw⟩ := h4 i hi
    exact ⟨_, u, rfl, h1.cells (g := g) rfl i u hu, rowIn_own hw⟩
end Go.Proofs.YtappphffbnkloaaGreatDoor.Sht
