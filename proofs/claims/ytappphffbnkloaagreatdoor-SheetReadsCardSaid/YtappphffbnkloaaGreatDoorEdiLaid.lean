/- What a row's 'laid' gives at many sentinels: each one's pointer and text; no two are one. -/
import Derived.Stop.LaidErr
import Derived.Stop.LaidTwo
set_option linter.unusedVariables false
namespace Go.Proofs.YtappphffbnkloaaGreatDoor.Is
open Go Go.RowKit Go.ChangeShapes
theorem laidVars_sub {P : Program} {W : World} : ∀ {L' L : List (String × DataW Unit)}, L'.Sublist L → ∀ {ps}, DataW.LaidVars P W L ps → ∃ ps', DataW.LaidVars P W L' ps' ∧ ps'.Sublist ps := by
  intro L' L h
  induction h with
  | slnil => intro ps h; exact ⟨ps, h, List.Sublist.refl _⟩
  | cons a _ ih =>
    obtain ⟨n, d⟩ := a
    rintro ps ⟨g, t, cs, fuel, p, q, h1, h2, h3, h4, h5, rfl⟩
    obtain ⟨ps', a1, a2⟩ := ih h5
    exact ⟨ps', a1, a2.trans (List.sublist_append_right _ _)⟩
  | cons_cons a _ ih =>
    obtain ⟨n, d⟩ := a
    rintro ps ⟨g, t, cs, fuel, p, q, h1, h2, h3, h4, h5, rfl⟩
    obtain ⟨ps', a1, a2⟩ := ih h5
    exact ⟨MemPlace.row ⟨g, 0, none⟩ cs.size ++ p ++ ps', ⟨g, t, cs, fuel, p, ps', h1, h2, h3, h4, a1, rfl⟩, List.Sublist.append (List.Sublist.refl _) a2⟩
theorem laidMet_sub {P : Program} {W : World} {L' L : List (String × DataW Unit)} (h : L'.Sublist L) (hL : laidMet P L W) : laidMet P L' W := by
  obtain ⟨ps, hv, hnd, hrows⟩ := hL
  obtain ⟨ps', a1, a2⟩ := laidVars_sub h hv
  exact ⟨ps', a1, hnd.sublist a2, fun b off hm => hrows b off (a2.subset hm)⟩
theorem pair_sub {α : Type} : ∀ {L : List α} {i j : Nat} {x y : α}, i < j → L[i]? = some x → L[j]? = some y → [x, y].Sublist L
  | [], _, _, _, _, _, h, _ => by simp at h
  | a :: L, 0, j + 1, x, y, _, h1, h2 => by
    simp at h1 h2
    subst h1
    exact List.Sublist.cons_cons _ (List.singleton_sublist.2 (List.mem_of_getElem? h2))
  | a :: L, i + 1, j + 1, x, y, h, h1, h2 => by
    simp at h1 h2
    exact List.Sublist.cons _ (pair_sub (by omega) h1 h2)
end Go.Proofs.YtappphffbnkloaaGreatDoor.Is
