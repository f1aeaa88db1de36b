/- Feeding in pieces, the rows taken away in between. -/
import Derived.Test.YtappphffbnkloaaGreatDoorShtN
set_option linter.unusedVariables false
set_option linter.unusedSimpArgs false
namespace Go.Proofs.YtappphffbnkloaaGreatDoor.Sht
/-- rows ahead of a state's own -/
def RS.pre (p : Rows) (s : RS) : RS := { s with rows := p ++ s.rows }
section
variable (p : Rows) (s : RS) (x : UInt8)
theorem pre_widen : (s.pre p).widen = s.widen.pre p := by
  unfold RS.widen
  show (if s.count = 0 then _ else _) = _
  split <;> rfl
theorem pre_newRow : (s.pre p).newRow = s.newRow.pre p := by
  unfold RS.newRow RS.pre
  simp
theorem pre_endRow (l c : Nat) : (s.pre p).endRow l c = (s.endRow l c).pre p := by
  unfold RS.endRow
  rw [pre_widen]
  show (if s.widen.row.length = s.widen.width then _ else _) = _
  split
  · exact pre_newRow p s.widen
  · rfl
theorem pre_put : (s.pre p).put x = (s.put x).pre p := by
  unfold RS.put
  show (if 4096 < (s.cell ++ [x]).length then _ else _) = _
  split <;> rfl
theorem pre_comma : (s.pre p).comma = s.comma.pre p := by
  unfold RS.comma
  show RS.turn (if s.endCell.row.length = 64 then _ else _) .start = _
  split <;> rfl
theorem pre_plain : (s.pre p).plain x = (s.plain x).pre p := by
  unfold RS.plain
  repeat' split
  all_goals first | exact pre_comma p s | exact pre_put p s x | rfl
theorem pre_quoted : (s.pre p).quoted x = (s.quoted x).pre p := by
  unfold RS.quoted
  repeat' split
  all_goals first | exact pre_put p s x | rfl
theorem pre_closed : (s.pre p).closed x = (s.closed x).pre p := by
  unfold RS.closed
  repeat' split
  all_goals first | exact pre_comma p s | exact pre_put p (s.turn .quoted) x | rfl
theorem pre_back : (s.pre p).back x = (s.back x).pre p := by
  unfold RS.back
  split
  · exact pre_endRow p s _ _
  · rfl
theorem pre_start : (s.pre p).start x = (s.start x).pre p := by
  unfold RS.start
  split
  · rfl
  · exact pre_plain p (s.turn .plain) x
theorem pre_fresh : (s.pre p).fresh x = (s.fresh x).pre p := by
  unfold RS.fresh
  show (if s.count = 4096 then _ else _) = _
  split
  · rfl
  · exact pre_start p s x
theorem pre_next : (s.pre p).next x = (s.next x).pre p := by
  unfold RS.next
  show (match s.md with | .fresh => _ | .start => _ | .plain => _ | .quoted => _ | .closed => _ | .back => _) = _
  cases h : s.md
  · exact pre_fresh p s x
  · exact pre_start p s x
  · exact pre_plain p s x
  · exact pre_quoted p s x
  · exact pre_closed p s x
  · exact pre_back p s x
theorem pre_step : (s.pre p).step x = (s.step x).pre p := by
  unfold RS.step
  show (if s.all = 262144 then _ else _) = _
  split
  · rfl
  · show RS.on (RS.next (RS.pre p { s with all := s.all + 1 }) x) x = _
    rw [pre_next]
    unfold RS.on
    split <;> rfl
end
theorem pre_feed (p : Rows) : ∀ (l : List UInt8) (s : RS), (s.pre p).feed l = (s.feed l).pre p
  | [], s => rfl
  | x :: l, s => by
    by_cases h : s.fault = none
    · rw [feed_cons (s := s.pre p) h, feed_cons h, pre_step, pre_feed p l]
    · rw [feed_stop (s := s.pre p) h, feed_stop h]
theorem pre_over (p : Rows) (s : RS) : (s.pre p).over = s.over.pre p := by
  unfold RS.over
  show (match s.md with | .fresh => _ | .start => _ | .plain => _ | .closed => _ | .quoted => _ | .back => _) = _
  cases h : s.md
  · rfl
  · exact pre_endRow p s.endCell _ _
  · exact pre_endRow p s.endCell _ _
  · rfl
  · exact pre_endRow p s.endCell _ _
  · rfl
theorem pre_fin (p : Rows) (s : RS) : (s.pre p).fin = s.fin.pre p := by
  unfold RS.fin
  show (if s.fault = none then _ else _) = _
  split
  · exact pre_over p s
  · rfl
/-- the state, its rows told -/
def RS.bare (s : RS) : RS := { s with rows := [] }
theorem bare_pre (s : RS) : s.bare.pre s.rows = s := by cases s; simp [RS.bare, RS.pre]
/-- a piece more: what is told adds up -/
theorem bare_feed (s : RS) (l : List UInt8) : (s.feed l).rows = s.rows ++ (s.bare.feed l).rows ∧ (s.feed l).bare = (s.bare.feed l).bare ∧ (s.feed l).fault = (s.bare.feed l).fault := by
  have h := pre_feed s.rows l s.bare
  rw [bare_pre] at h
  rw [h]
  exact ⟨rfl, rfl, rfl⟩
end Go.Proofs.YtappphffbnkloaaGreatDoor.Sht
