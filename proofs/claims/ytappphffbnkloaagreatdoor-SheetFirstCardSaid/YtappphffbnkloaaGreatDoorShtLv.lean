/- The law's lives. -/
import Derived.Test.YtappphffbnkloaaGreatDoorShtBk
import Derived.Test.YtappphffbnkloaaGreatDoorShtKn
import Derived.Lib.ItoaMem
set_option linter.unusedVariables false
set_option linter.unusedSimpArgs false
namespace Go.Proofs.YtappphffbnkloaaGreatDoor.Sht
open Go Go.RowKit
attribute [local go_sem ↓] Go.wp_at_zero Go.wp_at_succ
theorem ab_parse : parseO [97, 44, 98, 13, 10] = ([[[97], [98]]], none) := by kernel_rfl
theorem anb_parse : parseO [97, 10, 98] = ([], some (1, 1, 3)) := by kernel_rfl
theorem a_print : printO [[[97]]] = ([97, 13, 10], none) := by kernel_rfl
/-- one row of two cells, where they lie -/
theorem good_two {w : World} {B : Nat} {v : Value} {x y : List UInt8} (h : GoodRows B w v [[x, y]]) : ∃ g cap g' cap', v = .slice (some ⟨g, 0, none⟩) 1 cap ∧ w.cell? ⟨g, 0, none⟩ = some (.slice (some ⟨g', 0, none⟩) 2 cap') ∧
    w.cell? ⟨g', 0, none⟩ = some (st x) ∧ w.cell? ⟨g', 1, none⟩ = some (st y) := by
  obtain ⟨lv, h1, h2⟩ := h
  obtain ⟨h3, h4⟩ := rowsAt_get h2
  obtain ⟨u, hu, hw⟩ := h4 0 (by simp)
  obtain ⟨g, cap, rfl, _, _⟩ := h1.form (by simp)
  obtain ⟨g', cap', rfl, _, _⟩ := hw.form (by simp)
  have hb := h1.cells (g := g) rfl 0 _ hu
  have c0 := hw.cells (g := g') rfl 0 _ rfl
  have c1 := hw.cells (g := g') rfl 1 _ rfl
  rw [Lib.add_plain, Nat.zero_add] at hb c0 c1
  exact ⟨g, cap, g', cap', rfl, hb, c0, c1⟩
/-- a literal of one row of one text -/
theorem rowsIn_lit (w : World) (x : List UInt8) : RowsIn ((w.alloc (.cells #[st x] 9)).alloc (.cells #[.slice (some ⟨w.heap.size, 0, none⟩) 1 1] 28)) (.slice (some ⟨w.heap.size + 1, 0, none⟩) 1 1) [[x]] := by
  have e1 : ∀ (b i : Nat), (⟨b, 0, none⟩ : Addr).add i = ⟨b, i, none⟩ := fun b i => by rw [Lib.add_plain, Nat.zero_add]
  refine ⟨_, 1, rfl, by simp, fun i hi => ?_⟩
  have hi : i < 1 := hi
  obtain rfl : i = 0 := by omega
  refine ⟨_, .slice (some ⟨w.heap.size, 0, none⟩) 1 1, rfl, ?_, some ⟨w.heap.size, 0, none⟩, 1, rfl, by simp, fun j hj => ?_⟩
  · rw [e1]
    have := heap_alloc_new (w.alloc (.cells #[st x] 9)) (.cells #[.slice (some ⟨w.heap.size, 0, none⟩) 1 1] 28)
    exact (bcell (by simpa using this) 0).trans rfl
  · have hj : j < 1 := hj
    obtain rfl : j = 0 := by omega
    refine ⟨_, rfl, ?_⟩
    rw [e1]
    have := heap_alloc_new w (.cells #[st x] 9)
    rw [World.cell?_alloc_lt _ _ ⟨w.heap.size, 0, none⟩ (by simp)]
    exact (bcell this 0).trans rfl
theorem is_sf (A : Nat → Addr) (g e c : Nat) (x y : Value) (w : World) (hS : SF w A) (h1 : coded e) (h2 : coded c) (hg : w.heap[g]? = some (.cells #[x, y, errV A e] 70 (0, 0))) :
    Calls Tryz.prog 27 #[.iface 65 (PT g), errV A c] w fun ev w' => ev = .returned (.bool (decide (e = c))) ∧ w = w' := by
  by_cases h : e = c
  · subst h
    rw [decide_eq_true rfl]
    exact is_fault_yes g (A e) x y w hg
  · rw [decide_eq_false h]
    obtain ⟨ca, ta, ha⟩ := hS.hb e h1
    obtain ⟨cb, tb, hb⟩ := hS.hb c h2
    exact is_fault_no g (A e) (A c) x y ca cb ta tb w hg (hS.hn e c h1 h2 h) ha hb
theorem kept_cell {w w' : World} {a : Addr} {v : Value} (h : w.cell? a = some v) (k : Below w.heap.size w w') : w'.cell? a = some v := (k.cell (World.block_lt_of_cell? _ _ h)).trans h
set_option maxHeartbeats 8000000 in
set_option maxRecDepth 100000 in
theorem lives_r {A : Nat → Addr} (w : World) (hS : SF w A) (hE : ET w) (hM : ML w) : Calls Tryz.prog 23 #[] w fun e w' => e = .returned (.bool true) ∧ Below w.heap.size w w' := by
  have HP : Hid (∀ (t : ByteArray) w1, Below w.heap.size w w1 → t.size ≤ 10 → Calls Tryz.prog 24 #[.string t] w1 (Parsed A w1 t.data.toList)) := Lib.hid fun t w1 k ht => parse_r w1 (hS.below k) (hE.below k) t (by omega)
  have HPr : Hid (∀ (rs : Rows) v w1, Below w.heap.size w w1 → RowsIn w1 v rs → Calls Tryz.prog 20 #[v] w1 (Prt A w1 (printO rs))) := Lib.hid fun rs v w1 k h => print_r A rs v w1 (hS.below k) h (hM.below k hM.lt)
  have HS := Lib.hid hS
  clear hS hE hM
  go_enter Tryz.func23, Tryz.ntmps23
  go_wp2_with (first
    | (go_at_call 24; (with_reducible refine (HP.out ⟨#[97, 44, 98, 13, 10]⟩ _ (Below.refl _ _) (by decide)).mono ?_); rintro e w1 ⟨vl, ve, rfl, hg, hf, hb⟩; rw [show (⟨#[97, 44, 98, 13, 10]⟩ : ByteArray).data.toList = [97, 44, 98, 13, 10] from rfl, ab_parse] at hg hf; obtain rfl : ve = .nilIface := hf; obtain ⟨g, cap, g', cap', rfl, d0, d1, d2⟩ := good_two hg; have D0 := Lib.hid d0; have D1 := Lib.hid d1; have D2 := Lib.hid d2; clear d0 d1 d2; have HB1 := Lib.hid hb; have HPr1 := Lib.hid (HPr.out [[[97]]] _ _ ((HB1.out.alloc HB1.out.size _).alloc (by simp; have := HB1.out.size; omega) _) (rowsIn_lit w1 [97])); clear hg hb)
    | (go_at_call 20; (with_reducible refine HPr1.out.mono ?_); rintro e w2 ⟨ve2, rfl, hf, hb⟩; rw [a_print] at hf; obtain rfl : ve2 = .nilIface := hf; have HB2 := Lib.hid (((HB1.out.alloc HB1.out.size _).alloc (by simp; have := HB1.out.size; omega) _).trans (hb.mono (by simp; have := HB1.out.size; omega))); have HB12 := Lib.hid (((Below.refl _ w1).alloc (Nat.le_refl _) _).alloc (by simp) _ |>.trans (hb.mono (by simp; omega))); clear hb)
    | (go_at_call 24; (with_reducible refine (HP.out ⟨#[97, 10, 98]⟩ _ HB2.out (by decide)).mono ?_); rintro e w3 ⟨vl3, ve3, rfl, hg3, hf3, hb3⟩; rw [show (⟨#[97, 10, 98]⟩ : ByteArray).data.toList = [97, 10, 98] from rfl, anb_parse] at hg3 hf3; obtain ⟨he3, g3, hB3, rfl, hh3⟩ := hf3; have HB3 := Lib.hid (HB2.out.trans (hb3.mono HB2.out.size)); have HH3 := Lib.hid hh3; have HB13 := Lib.hid (HB12.out.trans (hb3.mono HB12.out.size)); have e0 := kept_cell D0.out HB13.out; have e1 := kept_cell D1.out HB13.out; have e2 := kept_cell D2.out HB13.out; have e3 : w3.cell? ⟨1, 0, none⟩ = some (errV A 3) := (HS.out.below HB3.out).hv 3 (cod' (by omega)); have HI := Lib.hid (is_sf A g3 3 3 _ _ w3 (HS.out.below HB3.out) (cod' (by omega)) (cod' (by omega)) HH3.out); rw [decide_eq_true rfl] at HI; clear hg3 hb3 hh3 he3)
    | (go_at_call 27; (with_reducible refine HI.out.mono ?_); rintro e w4 ⟨rfl, rfl⟩))
  go_ret
  exact ⟨rfl, HB3.out⟩
end Go.Proofs.YtappphffbnkloaaGreatDoor.Sht
