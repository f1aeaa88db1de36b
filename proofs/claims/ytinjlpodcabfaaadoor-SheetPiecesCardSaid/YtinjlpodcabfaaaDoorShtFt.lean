/- A fault that a Feed tells: its place and its code. -/
import Derived.Test.YtinjlpodcabfaaaDoorShtN
import Derived.Test.YtinjlpodcabfaaaDoorShtW
set_option linter.unusedVariables false
set_option linter.unusedSimpArgs false
namespace Go.Proofs.YtinjlpodcabfaaaDoor.Sht
structure Ft (n : Nat) (s : RS) : Prop where
  line : s.line ≤ n + 1
  col : s.col ≤ n
  ml : s.ml ≤ n + 1
  mc : s.mc ≤ n
  flt : ∀ l c e, s.fault = some (l, c, e) → l ≤ 262145 ∧ c ≤ 262144 ∧ coded e ∧ e ≠ 1 ∧ e ≠ 9
section
variable {n : Nat} {s : RS}
theorem Ft.fail (h : Ft n s) (hn : n ≤ 262144) {l c : Nat} (hl : l ≤ n + 1) (hc : c ≤ n) (e : Nat) (he : coded e) (h1 : e ≠ 1) (h9 : e ≠ 9) : Ft n (s.fail l c e) :=
  ⟨h.line, h.col, h.ml, h.mc, fun l' c' e' q => by
    have : some (l, c, e) = some (l', c', e') := q
    cases this
    exact ⟨by omega, by omega, he, h1, h9⟩⟩
theorem Ft.turn (h : Ft n s) (m : Md) : Ft n (s.turn m) := ⟨h.line, h.col, h.ml, h.mc, h.flt⟩
theorem Ft.mark (h : Ft n s) : Ft n s.mark := ⟨h.line, h.col, h.line, h.col, h.flt⟩
theorem Ft.endCell (h : Ft n s) : Ft n s.endCell := ⟨h.line, h.col, h.ml, h.mc, h.flt⟩
theorem Ft.widen (h : Ft n s) : Ft n s.widen := by
  unfold RS.widen
  split
  · exact ⟨h.line, h.col, h.ml, h.mc, h.flt⟩
  · exact h
theorem Ft.newRow (h : Ft n s) : Ft n s.newRow := ⟨h.line, h.col, h.ml, h.mc, h.flt⟩

theorem Ft.endRow (h : Ft n s) (hn : n ≤ 262144) {l c : Nat} (hl : l ≤ n + 1) (hc : c ≤ n) : Ft n (s.endRow l c) := by
  unfold RS.endRow
  split
  · exact h.widen.newRow
  · exact h.widen.fail hn hl hc 8 (by unfold coded; omega) (by decide) (by decide)
theorem Ft.put (h : Ft n s) (hn : n ≤ 262144) (x : UInt8) : Ft n (s.put x) := by
  unfold RS.put
  have h' : Ft n { s with cell := s.cell ++ [x] } := ⟨h.line, h.col, h.ml, h.mc, h.flt⟩
  split
  · exact h'.fail hn h.line h.col 5 (by unfold coded; omega) (by decide) (by decide)
  · exact h'
theorem Ft.comma (h : Ft n s) (hn : n ≤ 262144) : Ft n s.comma := by
  unfold RS.comma
  split
  · exact (h.endCell.fail hn h.line h.col 6 (by unfold coded; omega) (by decide) (by decide)).turn _
  · exact h.endCell.turn _
theorem Ft.cr (h : Ft n s) : Ft n s.cr := h.endCell.mark.turn _
theorem Ft.here (h : Ft n s) (hn : n ≤ 262144) (e : Nat) (he : coded e) (h1 : e ≠ 1) (h9 : e ≠ 9) : Ft n (s.fail s.line s.col e) := h.fail hn h.line h.col e he h1 h9
theorem Ft.plain (h : Ft n s) (hn : n ≤ 262144) (x : UInt8) : Ft n (s.plain x) := by
  unfold RS.plain
  repeat' split
  all_goals first | exact h.comma hn | exact h.cr | exact h.put hn x | exact h.here hn _ (by unfold coded; omega) (by decide) (by decide)
theorem Ft.quoted (h : Ft n s) (hn : n ≤ 262144) (x : UInt8) : Ft n (s.quoted x) := by
  unfold RS.quoted
  repeat' split
  all_goals first | exact h.turn _ | exact h.put hn x | exact h.here hn _ (by unfold coded; omega) (by decide) (by decide)
theorem Ft.closed (h : Ft n s) (hn : n ≤ 262144) (x : UInt8) : Ft n (s.closed x) := by
  unfold RS.closed
  repeat' split
  all_goals first | exact h.comma hn | exact h.cr | exact (h.turn _).put hn x | exact h.here hn _ (by unfold coded; omega) (by decide) (by decide)
theorem Ft.back (h : Ft n s) (hn : n ≤ 262144) (x : UInt8) : Ft n (s.back x) := by
  unfold RS.back
  split
  · exact h.endRow hn h.ml h.mc
  · exact h.fail hn h.ml h.mc 3 (by unfold coded; omega) (by decide) (by decide)
theorem Ft.start (h : Ft n s) (hn : n ≤ 262144) (x : UInt8) : Ft n (s.start x) := by
  unfold RS.start
  split
  · exact h.mark.turn _
  · exact (h.turn _).plain hn x
theorem Ft.fresh (h : Ft n s) (hn : n ≤ 262144) (x : UInt8) : Ft n (s.fresh x) := by
  unfold RS.fresh
  split
  · exact h.here hn 7 (by unfold coded; omega) (by decide) (by decide)
  · exact h.start hn x
theorem Ft.next (h : Ft n s) (hn : n ≤ 262144) (x : UInt8) : Ft n (s.next x) := by
  unfold RS.next
  split
  · exact h.fresh hn x
  · exact h.start hn x
  · exact h.plain hn x
  · exact h.quoted hn x
  · exact h.closed hn x
  · exact h.back hn x
theorem Ft.step (h : Ft n s) (hn : n + 1 ≤ 262144) (x : UInt8) (ha : s.all ≠ 262144) : Ft (n + 1) (s.step x) := by
  unfold RS.step
  rw [if_neg ha]
  have h1 : Ft n { s with all := s.all + 1 } := ⟨h.line, h.col, h.ml, h.mc, h.flt⟩
  have h2 := h1.next (by omega) x
  unfold RS.on
  split
  · exact ⟨by have := h2.line; show _ + 1 ≤ _; omega, Nat.zero_le _, by have := h2.ml; show _ ≤ n + 1 + 1; exact Nat.le_succ_of_le this, by have := h2.mc; exact Nat.le_succ_of_le this, h2.flt⟩
  · exact ⟨by have := h2.line; exact Nat.le_succ_of_le this, by have := h2.col; show _ + 1 ≤ _; omega, by have := h2.ml; exact Nat.le_succ_of_le this, by have := h2.mc; exact Nat.le_succ_of_le this, h2.flt⟩
end
theorem next_all (s : RS) (x : UInt8) : (s.next x).all = s.all := by
  have w : ∀ s : RS, s.widen.all = s.all := fun s => by unfold RS.widen; split <;> rfl
  have p : ∀ (s : RS) (x : UInt8), (s.put x).all = s.all := fun s x => by unfold RS.put; split <;> rfl
  have cm : ∀ s : RS, s.comma.all = s.all := fun s => by unfold RS.comma; split <;> rfl
  have er : ∀ (s : RS) (l c : Nat), (s.endRow l c).all = s.all := fun s l c => by unfold RS.endRow; split <;> exact w s
  have pl : ∀ (s : RS) (x : UInt8), (s.plain x).all = s.all := fun s x => by
    unfold RS.plain; repeat' split
    all_goals first | exact cm s | exact p s x | rfl
  have st : ∀ (s : RS) (x : UInt8), (s.start x).all = s.all := fun s x => by
    unfold RS.start; split
    · rfl
    · exact pl (s.turn .plain) x
  unfold RS.next
  split
  · unfold RS.fresh; split
    · rfl
    · exact st s x
  · exact st s x
  · exact pl s x
  · unfold RS.quoted; repeat' split
    all_goals first | exact p s x | rfl
  · unfold RS.closed; repeat' split
    all_goals first | exact cm s | exact p (s.turn .quoted) x | rfl
  · unfold RS.back; split
    · exact er s _ _
    · rfl
theorem step_all {s : RS} (x : UInt8) (ha : s.all ≠ 262144) : (s.step x).all = s.all + 1 := by
  unfold RS.step
  rw [if_neg ha]
  have := next_all { s with all := s.all + 1 } x
  unfold RS.on
  split <;> exact this
theorem Ft.feed : ∀ (l : List UInt8) (s : RS), s.all ≤ 262144 → Ft s.all s → ∃ n, Ft n (s.feed l)
  | [], s, _, h => ⟨_, h⟩
  | x :: l, s, ha, h => by
    by_cases hf : s.fault = none
    · rw [feed_cons hf]
      by_cases hx : s.all = 262144
      · have e : s.step x = s.fail s.line s.col 20 := by unfold RS.step; rw [if_pos hx]
        rw [e, feed_stop (by show some _ ≠ none; simp)]
        exact ⟨_, h.here (by omega) 20 (by unfold coded; omega) (by decide) (by decide)⟩
      · exact Ft.feed l _ (by rw [step_all x hx]; omega) (by rw [step_all x hx]; exact h.step (by omega) x hx)
    · rw [feed_stop hf]; exact ⟨_, h⟩
/-- a fault of a text that was fed -/
theorem fed_fault {t : List UInt8} {l c e : Nat} (h : (RS.new.feed t).fault = some (l, c, e)) : l ≤ 262145 ∧ c ≤ 262144 ∧ coded e ∧ e ≠ 1 ∧ e ≠ 9 := by
  obtain ⟨n, hn⟩ := Ft.feed t RS.new (by decide) ⟨by decide, by decide, by decide, by decide, fun l c e q => by cases q⟩
  exact hn.flt l c e h
end Go.Proofs.YtinjlpodcabfaaaDoor.Sht
