/- The law CalSpoken in plain numbers and texts: a printed span is read as itself, and unlike spans have unlike texts. -/
import Derived.Test.YtiklakkkgmilnaaCalRunP
import Derived.Test.YtiklakkkgmilnaaGCxf3
set_option linter.unusedSimpArgs false
namespace Go.Proofs.Ytiklakkkgmilnaa.CalP
open Go.RowKit Go.IntWalk Go.Proofs.YtiklakkkgmilnaaW.PrintWords Go.Proofs.Ytiklakkkgmilnaa.Ext Go.Proofs.Ytiklakkkgmilnaa.GC

theorem print_two (y mo wk d h mi s : Int) : ∃ (t : ByteArray) (e : Int), cal_PrintSpan.f y mo wk d h mi s = some (t, e) ∧ (e = 0 ∨ e = 34) := by
  unfold cal_PrintSpan.f
  split
  · split
    · exact ⟨_, _, rfl, .inr rfl⟩
    · split
      · exact ⟨_, _, rfl, .inl rfl⟩
      · split
        · exact ⟨_, _, rfl, .inl rfl⟩
        · exact ⟨_, _, rfl, .inl rfl⟩
  · exact ⟨_, _, rfl, .inr rfl⟩
theorem known_span : cal_ParseSpan.f (⟨#[80, 49, 89, 50, 77, 51, 68, 84, 52, 72, 53, 77, 54, 83]⟩ : ByteArray) = some (1, 2, 0, 3, 4, 5, 6, 0, 0) :=
  span_back (y := 1) (mo := 2) (wk := 0) (d := 3) (h := 4) (mi := 5) (s := 6) rfl
theorem calSpoken_pure (y mo wk d h mi s y' mo' wk' d' h' mi' s' : Int) : ∃ k, larderlaw03_CalSpoken.f k y mo wk d h mi s y' mo' wk' d' h' mi' s' = some true := by
  obtain ⟨t, e, h1, he⟩ := print_two y mo wk d h mi s
  obtain ⟨u, f, h2, hf⟩ := print_two y' mo' wk' d' h' mi' s'
  refine ⟨1, ?_⟩
  unfold larderlaw03_CalSpoken.f
  rw [h1, h2]
  simp only [Option.bind_some]
  have bad : ∀ (b : Bool), b = true → larderlaw03_CalSpoken.j0 1 t e u f b y mo wk d h mi s y' mo' wk' d' h' mi' s' = some true := by
    rintro b rfl
    rw [larderlaw03_CalSpoken.j0]
    rw [if_pos rfl, known_span]
    simp only [Option.bind_some]
    rcases he with rfl | rfl <;> rcases hf with rfl | rfl <;> simp
  by_cases e0 : e = 0
  · subst e0
    rw [if_pos rfl]
    by_cases f0 : f = 0
    · subst f0
      rw [larderlaw03_CalSpoken.j0, if_neg (by decide), span_back h1, span_back h2]
      simp only [Option.bind_some]
      have E : (t.toList == u.toList) = (y == y' && (mo == mo' && (wk == wk' && (d == d' && (h == h' && (mi == mi' && (s == s'))))))) := by
        rw [Bool.eq_iff_iff]
        constructor
        · intro q
          have q1 : t.toList = u.toList := by simpa using q
          have q2 : t = u := by
            rw [ByteArray.toList_eq, ByteArray.toList_eq] at q1
            exact ByteArray.ext (Array.ext' q1)
          subst q2
          have := Option.some.inj ((span_back h1).symm.trans (span_back h2))
          simp only [Prod.mk.injEq] at this
          obtain ⟨rfl, rfl, rfl, rfl, rfl, rfl, rfl, _⟩ := this
          simp
        · intro q
          simp only [Bool.and_eq_true, beq_iff_eq] at q
          obtain ⟨rfl, rfl, rfl, rfl, rfl, rfl, rfl⟩ := q
          have := Option.some.inj (h1.symm.trans h2)
          rw [(Prod.mk.inj this).1]
          simp
      rw [E]
      simp
    · exact bad _ (bne_iff_ne.2 f0)
  · rw [if_neg e0]
    exact bad _ rfl
end Go.Proofs.Ytiklakkkgmilnaa.CalP
