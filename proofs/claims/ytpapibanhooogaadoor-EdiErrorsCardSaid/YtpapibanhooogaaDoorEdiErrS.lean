/- What the row of EdiErrors lists: the eleven errors, as the walk wants them. -/
import Derived.Test.YtpapibanhooogaaDoorEdiErrL
import Derived.Test.YtpapibanhooogaaDoorRows
set_option linter.unusedVariables false
namespace Go.Proofs.YtpapibanhooogaaDoor.Is
open Go.RowKit Go.ChangeShapes
theorem laidIs {W : World} (h : laidMetH Tryd.prog Rows.ediErrorsRow.laid W) : laidMet Tryd.prog Rows.ediErrorsRow.laid W := h
theorem cellsE : Tryd.prog.cellsOf 91 = 1 := by kernel_rfl
theorem cellsS : Tryd.prog.cellsOf 9 = 1 := by kernel_rfl
theorem star : "*" ++ "errors.errorString" = "*errors.errorString" := by decide
theorem rowE (u : TypeId) (h : Tryd.prog.typeName? 3 u = some "*errors.errorString") : u = 67 :=
  typeName_ptr_named (nm := "errors.errorString") (by rw [star]; kernel_rfl) (by kernel_rfl) (by decide) u (by rw [star]; exact h)
theorem g0 : Tryd.prog.globalNamed "larder/edi.ErrTag" = some 0 := by kernel_rfl
theorem g0t : (Tryd.prog.globals[0]?).map (·.type) = some 23 := by kernel_rfl
theorem g1 : Tryd.prog.globalNamed "larder/edi.ErrLong" = some 1 := by kernel_rfl
theorem g1t : (Tryd.prog.globals[1]?).map (·.type) = some 23 := by kernel_rfl
theorem g2 : Tryd.prog.globalNamed "larder/edi.ErrShort" = some 2 := by kernel_rfl
theorem g2t : (Tryd.prog.globals[2]?).map (·.type) = some 23 := by kernel_rfl
theorem g3 : Tryd.prog.globalNamed "larder/edi.ErrTail" = some 3 := by kernel_rfl
theorem g3t : (Tryd.prog.globals[3]?).map (·.type) = some 23 := by kernel_rfl
theorem g4 : Tryd.prog.globalNamed "larder/edi.ErrHead" = some 4 := by kernel_rfl
theorem g4t : (Tryd.prog.globals[4]?).map (·.type) = some 23 := by kernel_rfl
theorem g5 : Tryd.prog.globalNamed "larder/edi.ErrSeparator" = some 5 := by kernel_rfl
theorem g5t : (Tryd.prog.globals[5]?).map (·.type) = some 23 := by kernel_rfl
theorem g6 : Tryd.prog.globalNamed "larder/edi.ErrElement" = some 6 := by kernel_rfl
theorem g6t : (Tryd.prog.globals[6]?).map (·.type) = some 23 := by kernel_rfl
theorem g7 : Tryd.prog.globalNamed "larder/edi.ErrCount" = some 7 := by kernel_rfl
theorem g7t : (Tryd.prog.globals[7]?).map (·.type) = some 23 := by kernel_rfl
theorem g8 : Tryd.prog.globalNamed "larder/edi.ErrControl" = some 8 := by kernel_rfl
theorem g8t : (Tryd.prog.globals[8]?).map (·.type) = some 23 := by kernel_rfl
theorem g9 : Tryd.prog.globalNamed "larder/edi.ErrSet" = some 9 := by kernel_rfl
theorem g9t : (Tryd.prog.globals[9]?).map (·.type) = some 23 := by kernel_rfl
theorem g10 : Tryd.prog.globalNamed "larder/edi.ErrDocument" = some 10 := by kernel_rfl
theorem g10t : (Tryd.prog.globals[10]?).map (·.type) = some 23 := by kernel_rfl
abbrev sent (n : String) (text : List UInt8) : String × DataW Unit := (n, .iface "*errors.errorString" (.ptr (.agg [.lit (.string text)])))
theorem pairOf {W : World} (hL : laidMet Tryd.prog Rows.ediErrorsRow.laid W) {n0 n1 : String} {x0 x1 : List UInt8} {i j k0 k1 : Nat} (hij : i < j) (h0 : (Rows.ediErrorsRow.laid)[i]? = some (sent n0 x0)) (h1 : (Rows.ediErrorsRow.laid)[j]? = some (sent n1 x1))
    (hg0 : Tryd.prog.globalNamed n0 = some k0) (ht0 : (Tryd.prog.globals[k0]?).map (·.type) = some 23) (hg1 : Tryd.prog.globalNamed n1 = some k1) (ht1 : (Tryd.prog.globals[k1]?).map (·.type) = some 23) :
    ∃ (a0 a1 : Addr) (s0 s1 : ByteArray) (c0 c1 : Array Value) (t0 t1 : TypeId),
      W.cell? ⟨k0, 0, none⟩ = some (.iface 67 (.pointer (some a0))) ∧ W.cell? ⟨k1, 0, none⟩ = some (.iface 67 (.pointer (some a1))) ∧
      W.cell? a0 = some (.string s0) ∧ s0.data.toList = x0 ∧ W.cell? a1 = some (.string s1) ∧ s1.data.toList = x1 ∧ a0 ≠ a1 ∧
      W.heap[a0.block]? = some (.cells c0 t0 (0, 0)) ∧ W.heap[a1.block]? = some (.cells c1 t1 (0, 0)) := by
  obtain ⟨a0, a1, s0, s1, c0, c1, t0, t1, hv0, hv1, hc0, hs0, hz0, hc1, hs1, hz1, hne, hb0, hb1⟩ := laid_sentinels2 (laidMet_sub (pair_sub hij h0 h1) hL) hg0 ht0 hg1 ht1 Tryd.underlying23 rowE Tryd.underlying67 Tryd.underlying91 rfl rfl Tryd.underlying9 cellsE cellsS
  exact ⟨a0, a1, s0, s1, c0, c1, t0, t1, by simpa using World.var?_cell hg0 hv0 0, by simpa using World.var?_cell hg1 hv1 0, hc0, hs0, hc1, hs1, hne, hb0, hb1⟩
def li (g : Nat) : Nat := if g = 0 then 8 else if g < 6 then g + 2 else g + 3
theorem li_inj {g g' : Nat} (h : g ≠ g') (h1 : g < 11) (h2 : g' < 11) : li g ≠ li g' := by unfold li; split <;> (try split) <;> (try split) <;> (try split) <;> omega
theorem listed (g : Nat) (hg : g < 11) : ∃ n x, (Rows.ediErrorsRow.laid)[li g]? = some (sent n x) ∧ Tryd.prog.globalNamed n = some g ∧ (Tryd.prog.globals[g]?).map (·.type) = some 23 ∧ x.length < 1000 := by
  rcases (show g = 0 ∨ g = 1 ∨ g = 2 ∨ g = 3 ∨ g = 4 ∨ g = 5 ∨ g = 6 ∨ g = 7 ∨ g = 8 ∨ g = 9 ∨ g = 10 by omega) with rfl | rfl | rfl | rfl | rfl | rfl | rfl | rfl | rfl | rfl | rfl
  · exact ⟨_, _, rfl, g0, g0t, by decide⟩
  · exact ⟨_, _, rfl, g1, g1t, by decide⟩
  · exact ⟨_, _, rfl, g2, g2t, by decide⟩
  · exact ⟨_, _, rfl, g3, g3t, by decide⟩
  · exact ⟨_, _, rfl, g4, g4t, by decide⟩
  · exact ⟨_, _, rfl, g5, g5t, by decide⟩
  · exact ⟨_, _, rfl, g6, g6t, by decide⟩
  · exact ⟨_, _, rfl, g7, g7t, by decide⟩
  · exact ⟨_, _, rfl, g8, g8t, by decide⟩
  · exact ⟨_, _, rfl, g9, g9t, by decide⟩
  · exact ⟨_, _, rfl, g10, g10t, by decide⟩
def addrOf (W : World) (g : Nat) : Addr := match W.cell? ⟨g, 0, none⟩ with
  | some (Value.iface _ (Value.pointer (some a))) => a
  | _ => ⟨0, 0, none⟩
theorem addrOf_eq {W : World} {g : Nat} {t : TypeId} {a : Addr} (h : W.cell? ⟨g, 0, none⟩ = some (.iface t (.pointer (some a)))) : addrOf W g = a := by unfold addrOf; rw [h]
theorem pairLt {W : World} (hL : laidMet Tryd.prog Rows.ediErrorsRow.laid W) (g g' : Nat) (h1 : g < 11) (h2 : g' < 11) (hlt : li g < li g') :
    (W.cell? ⟨g, 0, none⟩ = some (.iface 67 (.pointer (some (addrOf W g)))) ∧ (∃ s, W.cell? (addrOf W g) = some (.string s) ∧ s.size < 1000) ∧ ∃ cs t, W.heap[(addrOf W g).block]? = some (.cells cs t (0, 0))) ∧
    (W.cell? ⟨g', 0, none⟩ = some (.iface 67 (.pointer (some (addrOf W g')))) ∧ (∃ s, W.cell? (addrOf W g') = some (.string s) ∧ s.size < 1000) ∧ ∃ cs t, W.heap[(addrOf W g').block]? = some (.cells cs t (0, 0))) ∧ addrOf W g ≠ addrOf W g' := by
  obtain ⟨n0, x0, l0, k0, t0, z0⟩ := listed g h1
  obtain ⟨n1, x1, l1, k1, t1, z1⟩ := listed g' h2
  obtain ⟨a0, a1, s0, s1, c0, c1, u0, u1, v0, v1, w0, y0, w1, y1, hne, b0, b1⟩ := pairOf hL hlt l0 l1 k0 t0 k1 t1
  rw [addrOf_eq v0, addrOf_eq v1]
  refine ⟨⟨v0, ⟨s0, w0, ?_⟩, c0, u0, b0⟩, ⟨v1, ⟨s1, w1, ?_⟩, c1, u1, b1⟩, hne⟩
  · rw [← y0, Array.length_toList] at z0; exact z0
  · rw [← y1, Array.length_toList] at z1; exact z1
theorem sf_of_laid {W : World} (hL : laidMet Tryd.prog Rows.ediErrorsRow.laid W) : SF W (addrOf W) ∧ ∃ s, W.cell? (addrOf W 0) = some (.string s) ∧ s.size < 1000 := by
  have one : ∀ g, g < 11 → g ≠ 1 → W.cell? ⟨g, 0, none⟩ = some (.iface 67 (.pointer (some (addrOf W g)))) ∧ (∃ s, W.cell? (addrOf W g) = some (.string s) ∧ s.size < 1000) ∧ ∃ cs t, W.heap[(addrOf W g).block]? = some (.cells cs t (0, 0)) := fun g hg hn =>
    (pairLt hL 1 g (by omega) hg (by show 3 < (if g = 0 then 8 else if g < 6 then g + 2 else g + 3); split <;> (try split) <;> omega)).2.1
  have one' : ∀ g, g < 11 → W.cell? ⟨g, 0, none⟩ = some (.iface 67 (.pointer (some (addrOf W g)))) ∧ (∃ s, W.cell? (addrOf W g) = some (.string s) ∧ s.size < 1000) ∧ ∃ cs t, W.heap[(addrOf W g).block]? = some (.cells cs t (0, 0)) := fun g hg => by
    by_cases h : g = 1
    · subst h; exact (pairLt hL 1 2 (by omega) (by omega) (by decide)).1
    · exact one g hg h
  refine ⟨⟨fun g hg => (one' g hg).1, fun g g' h1 h2 hne => ?_, fun g hg => (one' g hg).2.2, ?_⟩, (one' 0 (by omega)).2.1⟩
  · rcases Nat.lt_or_gt_of_ne (li_inj hne h1 h2) with h | h
    · exact (pairLt hL g g' h1 h2 h).2.2
    · exact (pairLt hL g' g h2 h1 h).2.2.symm
  · have := (one' 10 (by omega)).1
    by_cases hlt : 10 < W.heap.size
    · omega
    · rw [World.cell?] at this
      simp [Array.getElem?_eq_none (Nat.le_of_not_lt hlt)] at this
end Go.Proofs.YtpapibanhooogaaDoor.Is
