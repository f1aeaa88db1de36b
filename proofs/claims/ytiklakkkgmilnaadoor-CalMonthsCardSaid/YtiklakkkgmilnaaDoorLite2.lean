/- A cell that is stored twice holds what was stored last. -/
import Derived.WalkKit
import Derived.Test.YtiklakkkgmilnaaDoorProg
namespace Go.Proofs.YtiklakkkgmilnaaDoor.Ext
theorem setCell_twice (w : World) (b o : Nat) (u v : Value) : (w.setCell ⟨b, o, none⟩ u).setCell ⟨b, o, none⟩ v = w.setCell ⟨b, o, none⟩ v := by
  unfold World.setCell
  congr 1
  apply Array.ext
  · simp
  · intro i h1 h2
    simp only [Array.getElem_modify]
    by_cases h : b = i
    · simp only [h, if_true]
      cases hx : w.heap[i]'(by simpa using h2) <;> simp
    · simp only [h, if_false]
theorem cell_twice (w : World) (b o : Nat) (u v : Value) (h : (w.cell? ⟨b, o, none⟩).isSome = true) : ((w.setCell ⟨b, o, none⟩ u).setCell ⟨b, o, none⟩ v).cell? ⟨b, o, none⟩ = some v := by
  rw [setCell_twice]
  exact World.cell?_setCell_same' _ _ _ h
end Go.Proofs.YtiklakkkgmilnaaDoor.Ext
