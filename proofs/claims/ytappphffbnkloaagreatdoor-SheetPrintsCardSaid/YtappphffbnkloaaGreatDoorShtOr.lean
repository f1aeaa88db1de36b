/- A slice of slices of texts among the arguments, opened. -/
import Derived.Test.YtappphffbnkloaaGreatDoorShtPrj
import Derived.Deep.Slices
import Derived.SliceStrings
set_option linter.unusedVariables false
namespace Go.Proofs.YtappphffbnkloaaGreatDoor.Sht
open Go Go.RowKit Go.ChangeShapes Go.WideShapes Go.Deep
theorem cellsRow : Tryz.prog.cellsOf 28 = 1 := by kernel_rfl
theorem cellsStr : Tryz.prog.cellsOf 9 = 1 := by kernel_rfl
theorem ml_of_shape {W : World} (h : W.ShapedOpen Tryz.prog) : ML W := Tryz.laysM155.s1_3 W h
theorem open_row {H : Type} {enc : TypeId × Value → H} {w : World} {v : Value} {x : DataW H × List MemPlace} {fuel : Nat} (h : DataW.trod enc Tryz.prog w 0 (fun _ => true) true fuel 28 [v] = some x) : ∃ r, RowIn w v r := by
  rcases open_strings Tryz.underlying28 Tryz.underlying9 cellsStr h with ⟨hcs, _⟩ | ⟨a, len, cap, ss, hcs, _, hl, hm, hz, _, hcell, _⟩
  · obtain rfl : v = .slice none 0 0 := (List.cons.inj hcs).1
    exact ⟨[], none, 0, rfl, by decide, fun i h => absurd h (by simp)⟩
  · obtain rfl : v = .slice (some a) len cap := (List.cons.inj hcs).1
    have hlen : ((ss.take len).map (·.data.toList)).length = len := by rw [List.length_map, List.length_take, hz]; simp; omega
    refine ⟨(ss.take len).map (·.data.toList), some a, cap, by rw [hlen], by rw [hlen]; unfold maxLen at hm; omega, fun i hi => ⟨a, rfl, ?_⟩⟩
    rw [hlen] at hi
    have hi' : i < ss.length := by rw [hz]; simp; omega
    rw [hcell i hi', List.getD_eq_getElem?_getD, List.getElem?_eq_getElem hi', List.getElem_map, List.getElem_take]
    rfl
theorem open_rows {H : Type} {enc : TypeId × Value → H} {w : World} {v : Value} {d : DataW H} {p : List MemPlace} (ho : ∃ a l c, v = .slice a l c) (h : DataW.Trod enc Tryz.prog w 0 (fun _ => true) true 30 v d p) : ∃ rs, RowsIn w v rs := by
  obtain ⟨a0, l0, c0, rfl⟩ := ho
  obtain ⟨fuel, hf⟩ := h
  rcases open_slice1 Tryz.underlying30 cellsRow hf with ⟨hcs, _⟩ | ⟨a, len, cap, m, n, V, D, Pl, hcs, hb, hl, hm, hmm, _, hx⟩
  · exact ⟨[], none, 0, (List.cons.inj (show [Value.slice a0 l0 c0] = [_] from hcs)).1, by decide, fun i h => absurd h (by simp)⟩
  · have hv := (List.cons.inj (show [Value.slice a0 l0 c0] = [_] from hcs)).1
    simp only [if_true] at hmm
    subst hmm
    have each : ∀ r, r < len → ∃ row, RowIn w (V r) row := fun r hr => open_row (hx r (by omega)).2
    obtain ⟨f, hfr⟩ := choose_lt each
    refine ⟨(List.range len).map f, some a, m, by rw [hv]; simp, by simp; unfold maxLen at hm; omega, fun i hi => ?_⟩
    have hi' : i < len := by simpa using hi
    refine ⟨a, V i, rfl, (hx i (by omega)).1, ?_⟩
    have := hfr i hi'
    simpa using this
end Go.Proofs.YtappphffbnkloaaGreatDoor.Sht
