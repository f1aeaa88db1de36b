/- The plain machine's bounds, and feeding by parts. -/
import Derived.Test.YtappphffbnkloaaGreatDoorShtM
set_option linter.unusedVariables false
set_option linter.unusedSimpArgs false
namespace Go.Proofs.YtappphffbnkloaaGreatDoor.Sht
variable {s : RS} {N : Nat}
theorem RS.Bd.mono {M : Nat} (h : s.Bd N) (k : N ≤ M) : s.Bd M :=
  ⟨Nat.le_trans h.line k, Nat.le_trans h.col k, Nat.le_trans h.all k, Nat.le_trans h.ml k, Nat.le_trans h.mc k, Nat.le_trans h.cell k, Nat.le_trans h.row k, Nat.le_trans h.rows k, Nat.le_trans h.count k, Nat.le_trans h.width k⟩
theorem bdFail (h : s.Bd N) (l c e : Nat) : (s.fail l c e).Bd N := ⟨h.line, h.col, h.all, h.ml, h.mc, h.cell, h.row, h.rows, h.count, h.width⟩
theorem bdTurn (h : s.Bd N) (m : Md) : (s.turn m).Bd N := ⟨h.line, h.col, h.all, h.ml, h.mc, h.cell, h.row, h.rows, h.count, h.width⟩
theorem bdMark (h : s.Bd N) : s.mark.Bd N := ⟨h.line, h.col, h.all, h.line, h.col, h.cell, h.row, h.rows, h.count, h.width⟩
theorem bdEndCell (h : s.Bd N) : s.endCell.Bd (N + 1) := by
  have h' := h.mono (Nat.le_succ N)
  exact ⟨h'.line, h'.col, h'.all, h'.ml, h'.mc, Nat.zero_le _, by have := h.row; simp [RS.endCell]; omega, h'.rows, h'.count, h'.width⟩
theorem bdWiden (h : s.Bd N) : s.widen.Bd N := by
  unfold RS.widen
  split
  · exact ⟨h.line, h.col, h.all, h.ml, h.mc, h.cell, h.row, h.rows, h.count, h.row⟩
  · exact h
theorem bdEndRow (h : s.Bd N) (l c : Nat) : (s.endRow l c).Bd (N + 1) := by
  have h1 := bdWiden h
  have h' := h1.mono (Nat.le_succ N)
  unfold RS.endRow
  split
  · exact ⟨h'.line, h'.col, h'.all, h'.ml, h'.mc, h'.cell, Nat.zero_le _, by have := h1.rows; simp [RS.newRow]; omega, by have := h1.count; simp [RS.newRow]; omega, h'.width⟩
  · exact bdFail h' _ _ _
theorem bdPut (h : s.Bd N) (x : UInt8) : (s.put x).Bd (N + 1) := by
  have h' := h.mono (Nat.le_succ N)
  have hc : (s.cell ++ [x]).length ≤ N + 1 := by have := h.cell; simp; omega
  unfold RS.put
  split
  · exact bdFail (s := { s with cell := s.cell ++ [x] }) ⟨h'.line, h'.col, h'.all, h'.ml, h'.mc, hc, h'.row, h'.rows, h'.count, h'.width⟩ _ _ _
  · exact ⟨h'.line, h'.col, h'.all, h'.ml, h'.mc, hc, h'.row, h'.rows, h'.count, h'.width⟩
theorem bdComma (h : s.Bd N) : s.comma.Bd (N + 1) := by
  unfold RS.comma
  refine bdTurn ?_ _
  split
  · exact bdFail (bdEndCell h) _ _ _
  · exact bdEndCell h
theorem bdCr (h : s.Bd N) : s.cr.Bd (N + 1) := bdTurn (bdMark (bdEndCell h)) _
theorem bdPlain (h : s.Bd N) (x : UInt8) : (s.plain x).Bd (N + 1) := by
  have h' := h.mono (Nat.le_succ N)
  unfold RS.plain
  repeat' split
  · exact bdComma h
  · exact bdCr h
  · exact bdFail h' _ _ _
  · exact bdFail h' _ _ _
  · exact bdFail h' _ _ _
  · exact bdPut h x
theorem bdQuoted (h : s.Bd N) (x : UInt8) : (s.quoted x).Bd (N + 1) := by
  have h' := h.mono (Nat.le_succ N)
  unfold RS.quoted
  repeat' split
  · exact bdTurn h' _
  · exact bdFail h' _ _ _
  · exact bdPut h x
theorem bdClosed (h : s.Bd N) (x : UInt8) : (s.closed x).Bd (N + 1) := by
  have h' := h.mono (Nat.le_succ N)
  unfold RS.closed
  repeat' split
  · exact bdPut (bdTurn h _) x
  · exact bdComma h
  · exact bdCr h
  · exact bdFail h' _ _ _
  · exact bdFail h' _ _ _
theorem bdBack (h : s.Bd N) (x : UInt8) : (s.back x).Bd (N + 1) := by
  unfold RS.back
  split
  · exact bdEndRow h _ _
  · exact bdFail (h.mono (Nat.le_succ N)) _ _ _
theorem bdStart (h : s.Bd N) (x : UInt8) : (s.start x).Bd (N + 1) := by
  unfold RS.start
  split
  · exact bdTurn (bdMark (h.mono (Nat.le_succ N))) _
  · exact bdPlain (bdTurn h _) x
theorem bdFresh (h : s.Bd N) (x : UInt8) : (s.fresh x).Bd (N + 1) := by
  unfold RS.fresh
  split
  · exact bdFail (h.mono (Nat.le_succ N)) _ _ _
  · exact bdStart h x
theorem next_cases (s : RS) (x : UInt8) : (s.md = .fresh ∧ s.next x = s.fresh x) ∨ (s.md = .start ∧ s.next x = s.start x) ∨ (s.md = .plain ∧ s.next x = s.plain x) ∨ (s.md = .quoted ∧ s.next x = s.quoted x) ∨ (s.md = .closed ∧ s.next x = s.closed x) ∨ (s.md = .back ∧ s.next x = s.back x) := by
  cases hm : s.md <;> simp [RS.next, hm]
theorem bdNext (h : s.Bd N) (x : UInt8) : (s.next x).Bd (N + 1) := by
  rcases next_cases s x with ⟨_, e⟩ | ⟨_, e⟩ | ⟨_, e⟩ | ⟨_, e⟩ | ⟨_, e⟩ | ⟨_, e⟩ <;> rw [e]
  · exact bdFresh h x
  · exact bdStart h x
  · exact bdPlain h x
  · exact bdQuoted h x
  · exact bdClosed h x
  · exact bdBack h x
theorem bdOn (h : s.Bd N) (x : UInt8) : (s.on x).Bd (N + 1) := by
  have h' := h.mono (Nat.le_succ N)
  unfold RS.on
  split
  · exact ⟨by have := h.line; simp; omega, Nat.zero_le _, h'.all, h'.ml, h'.mc, h'.cell, h'.row, h'.rows, h'.count, h'.width⟩
  · exact ⟨h'.line, by have := h.col; simp; omega, h'.all, h'.ml, h'.mc, h'.cell, h'.row, h'.rows, h'.count, h'.width⟩
/-- what a byte never turns -/
structure Kept (s s' : RS) : Prop where
  line : s'.line = s.line
  col : s'.col = s.col
  all : s'.all = s.all
theorem Kept.refl (s : RS) : Kept s s := ⟨rfl, rfl, rfl⟩
theorem Kept.trans {a b c : RS} (h : Kept a b) (k : Kept b c) : Kept a c := ⟨k.line.trans h.line, k.col.trans h.col, k.all.trans h.all⟩
theorem kEndRow (s : RS) (l c : Nat) : Kept s (s.endRow l c) := by
  unfold RS.endRow RS.widen
  repeat' split
  all_goals exact ⟨rfl, rfl, rfl⟩
theorem kPut (s : RS) (x : UInt8) : Kept s (s.put x) := by
  unfold RS.put
  split <;> exact ⟨rfl, rfl, rfl⟩
theorem kComma (s : RS) : Kept s s.comma := by
  unfold RS.comma
  split <;> exact ⟨rfl, rfl, rfl⟩
theorem kPlain (s : RS) (x : UInt8) : Kept s (s.plain x) := by
  unfold RS.plain
  repeat' split
  all_goals first
    | exact kComma s
    | exact kPut s x
    | exact ⟨rfl, rfl, rfl⟩
theorem kNext (s : RS) (x : UInt8) : Kept s (s.next x) := by
  rcases next_cases s x with ⟨_, e⟩ | ⟨_, e⟩ | ⟨_, e⟩ | ⟨_, e⟩ | ⟨_, e⟩ | ⟨_, e⟩ <;> rw [e]
  · unfold RS.fresh RS.start
    repeat' split
    all_goals first
      | exact (⟨rfl, rfl, rfl⟩ : Kept s (s.turn .plain)).trans (kPlain _ x)
      | exact ⟨rfl, rfl, rfl⟩
  · unfold RS.start
    split
    · exact ⟨rfl, rfl, rfl⟩
    · exact (⟨rfl, rfl, rfl⟩ : Kept s (s.turn .plain)).trans (kPlain _ x)
  · exact kPlain s x
  · unfold RS.quoted
    repeat' split
    all_goals first
      | exact kPut s x
      | exact ⟨rfl, rfl, rfl⟩
  · unfold RS.closed
    repeat' split
    all_goals first
      | exact (⟨rfl, rfl, rfl⟩ : Kept s (s.turn .quoted)).trans (kPut _ x)
      | exact kComma s
      | exact ⟨rfl, rfl, rfl⟩
  · unfold RS.back
    split
    · exact kEndRow s _ _
    · exact ⟨rfl, rfl, rfl⟩
/-- behind a CR that ended a cell a row has one -/
def RS.Bk (s : RS) : Prop := s.md = .back → 0 < s.row.length
theorem bkTurn (s : RS) (m : Md) (h : m ≠ .back) : (s.turn m).Bk := fun e => absurd e h
theorem bkCr (s : RS) : s.cr.Bk := fun _ => by show 0 < (s.row ++ [s.cell]).length; simp
theorem bkFail (h : s.Bk) (l c e : Nat) : (s.fail l c e).Bk := h
theorem bkPut (h : s.Bk) (x : UInt8) : (s.put x).Bk := by
  unfold RS.put
  split <;> exact h
theorem bkPlain (h : s.Bk) (x : UInt8) : (s.plain x).Bk := by
  unfold RS.plain
  repeat' split
  all_goals first
    | exact h
    | exact bkPut h x
    | exact bkCr s
    | exact bkTurn _ _ (by intro e; cases e)
theorem bkNext (h : s.Bk) (x : UInt8) (hf : (s.next x).fault = none) : (s.next x).Bk := by
  revert hf
  rcases next_cases s x with ⟨_, e⟩ | ⟨_, e⟩ | ⟨_, e⟩ | ⟨_, e⟩ | ⟨_, e⟩ | ⟨_, e⟩ <;> rw [e]
  · unfold RS.fresh RS.start
    intro hf
    repeat' split
    all_goals first
      | exact h
      | exact bkPlain (bkTurn _ .plain (by intro e; cases e)) x
      | exact bkTurn _ _ (by intro e; cases e)
  · unfold RS.start
    intro hf
    split
    · exact bkTurn _ _ (by intro e; cases e)
    · exact bkPlain (bkTurn _ _ (by intro e; cases e)) x
  · intro hf; exact bkPlain h x
  · unfold RS.quoted
    intro hf
    repeat' split
    all_goals first
      | exact h
      | exact bkPut h x
      | exact bkTurn _ _ (by intro e; cases e)
  · unfold RS.closed
    intro hf
    repeat' split
    all_goals first
      | exact h
      | exact bkCr s
      | exact bkPut (bkTurn _ .quoted (by intro e; cases e)) x
      | exact bkTurn _ _ (by intro e; cases e)
  · unfold RS.back RS.endRow
    intro hf
    split
    · rename_i h1
      rw [if_pos h1] at hf
      split
      · exact fun e => by cases e
      · rename_i h2
        rw [if_neg h2] at hf
        cases hf
    · rename_i h1
      rw [if_neg h1] at hf
      cases hf
/-- what holds of a reader as long as there is no fault -/
structure RS.Inv (s : RS) : Prop where
  all : s.all ≤ 262144
  bd : s.Bd (8 * s.all + 8)
  bk : s.Bk
theorem inv_new : RS.new.Inv := ⟨by decide, ⟨by decide, by decide, by decide, by decide, by decide, by decide, by decide, by decide, by decide, by decide⟩, fun e => by cases e⟩
theorem step_on (hn : s.all ≠ 262144) (x : UInt8) : s.step x = (RS.next { s with all := s.all + 1 } x).on x := by rw [RS.step, if_neg hn]
theorem bump (h : s.Inv) : RS.Bd (8 * s.all + 9) { s with all := s.all + 1 } := by
  have h' := h.bd.mono (show 8 * s.all + 8 ≤ 8 * s.all + 9 by omega)
  exact ⟨h'.line, h'.col, by simp; omega, h'.ml, h'.mc, h'.cell, h'.row, h'.rows, h'.count, h'.width⟩
theorem on_fault (s : RS) (x : UInt8) : (s.on x).fault = s.fault := by unfold RS.on; split <;> rfl
theorem inv_step (h : s.Inv) (x : UInt8) (hf : (s.step x).fault = none) : (s.step x).Inv := by
  by_cases hn : s.all = 262144
  · rw [RS.step, if_pos hn] at hf; cases hf
  · rw [step_on hn] at hf ⊢
    rw [on_fault] at hf
    have hk := kNext { s with all := s.all + 1 } x
    have ha : ((RS.next { s with all := s.all + 1 } x).on x).all = s.all + 1 := by
      unfold RS.on
      split <;> exact hk.all
    refine ⟨by rw [ha]; have := h.all; omega, ?_, ?_⟩
    · rw [ha]
      exact (bdOn (bdNext (bump h) x) x).mono (by omega)
    · have := bkNext (s := { s with all := s.all + 1 }) h.bk x hf
      intro e
      have e' : (RS.next { s with all := s.all + 1 } x).md = .back := by unfold RS.on at e; split at e <;> exact e
      have := this e'
      unfold RS.on
      split <;> exact this
theorem feed_stop (h : s.fault ≠ none) : ∀ l, s.feed l = s
  | [] => rfl
  | x :: l => by rw [RS.feed, if_neg h]
theorem feed_cons (h : s.fault = none) (x : UInt8) (l : List UInt8) : s.feed (x :: l) = (s.step x).feed l := by rw [RS.feed, if_pos h]
theorem feed_app : ∀ (l m : List UInt8) (s : RS), s.feed (l ++ m) = (s.feed l).feed m
  | [], m, s => rfl
  | x :: l, m, s => by
    by_cases h : s.fault = none
    · rw [List.cons_append, feed_cons h, feed_cons h, feed_app l m]
    · rw [feed_stop h, feed_stop h, feed_stop h]
theorem feed_snoc (s : RS) (l : List UInt8) (x : UInt8) (h : (s.feed l).fault = none) : s.feed (l ++ [x]) = (s.feed l).step x := by rw [feed_app, feed_cons h]; rfl
/-- a Close: what the text's end makes -/
def RS.fin (s : RS) : RS := if s.fault = none then s.over else s
abbrev Rows := List (List (List UInt8))
/-- what Parse tells of a text -/
def parseO (l : List UInt8) : Rows × Option (Nat × Nat × Nat) :=
  if (RS.new.feed l).fault ≠ none then ([], (RS.new.feed l).fault)
  else if (RS.fin { RS.new.feed l with rows := [] }).fault ≠ none then ([], (RS.fin { RS.new.feed l with rows := [] }).fault)
  else ((RS.new.feed l).rows ++ (RS.fin { RS.new.feed l with rows := [] }).rows, none)
/-- 'Inv' as long as there is no fault -/
def RS.Live (s : RS) : Prop := s.fault = none → s.Inv
theorem live_feed : ∀ (l : List UInt8) (s : RS), s.Live → (s.feed l).Live
  | [], s, h => h
  | x :: l, s, h => by
    by_cases hf : s.fault = none
    · rw [feed_cons hf]
      exact live_feed l _ (fun e => inv_step (h hf) x e)
    · rw [feed_stop hf]; exact h
end Go.Proofs.YtappphffbnkloaaGreatDoor.Sht
