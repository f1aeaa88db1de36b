-- joined out of the texts ShtFp ShtFt ShtPr ShtGo ShtPf ShtOf ShtIt ShtIu ShtSk ShtTb
import Derived.Test.YtappphffbnkloaaGreatDoorShtPu
import Derived.Test.YtappphffbnkloaaGreatDoorShtN
import Derived.Test.YtappphffbnkloaaGreatDoorShtW
import Derived.Test.YtappphffbnkloaaGreatDoorShtPp
import Derived.Test.YtappphffbnkloaaGreatDoorShtQ
import Derived.Test.YtappphffbnkloaaGreatDoorShtR
import Derived.Test.YtappphffbnkloaaGreatDoorGSxf26
import Derived.Test.YtappphffbnkloaaGreatDoorChecked
import Derived.Shelf.RegionOpenPlain
import Derived.Lib.Walk
import Derived.Lib.ItoaWalk
import Derived.WalkKit
import Derived.RegionTactic
import Derived.BigCall
import Derived.BigGuard
import Derived.CellFam
import Derived.Test.YtappphffbnkloaaGreatDoorShelf
import Derived.Lib.ItoaMem
import Derived.Lib.ItoaLen
import Derived.Lib.AppendIntMem
import Derived.Test.YtappphffbnkloaaGreatDoorShtKn
import Derived.SliceStrings
import Derived.OpenShut
import Derived.SizedLaws
set_option linter.unusedVariables false
set_option linter.unusedSimpArgs false
namespace Go.Proofs.YtappphffbnkloaaGreatDoor.Sht
/-- the place behind some bytes -/
def onPos (p : Nat × Nat) (x : UInt8) : Nat × Nat := if x = 10 then (p.1 + 1, 0) else (p.1, p.2 + 1)
def posO (l : List UInt8) : Nat × Nat := l.foldl onPos (1, 0)
theorem posO_snoc (l : List UInt8) (x : UInt8) : posO (l ++ [x]) = onPos (posO l) x := by simp [posO]
def MkOk (t : List UInt8) (s : RS) : Md → Prop
  | .quoted => ∃ u v, t = u ++ v ∧ (s.ml, s.mc) = posO u ∧ ((RS.new.feed u).md = .fresh ∨ (RS.new.feed u).md = .start)
  | .closed => ∃ u v, t = u ++ v ∧ (s.ml, s.mc) = posO u ∧ ((RS.new.feed u).md = .fresh ∨ (RS.new.feed u).md = .start)
  | .back => ∃ u, t = u ++ [13] ∧ (s.ml, s.mc) = posO u ∧ (RS.new.feed u).md ≠ .back ∧ (RS.new.feed u).md ≠ .quoted
  | _ => True
structure PI (t : List UInt8) (s : RS) : Prop where
  pos : (s.line, s.col) = posO t
  mark : MkOk t s s.md
theorem pi_new : PI [] RS.new := ⟨rfl, trivial⟩
section
variable {t : List UInt8} {s : RS} {x : UInt8}
theorem put_md (s : RS) (x : UInt8) : (s.put x).md = s.md ∧ (s.put x).ml = s.ml ∧ (s.put x).mc = s.mc := by unfold RS.put; split <;> exact ⟨rfl, rfl, rfl⟩
theorem comma_md (s : RS) : s.comma.md = .start := rfl
theorem mk_plain (hm : s.md = .plain) (hp : (s.line, s.col) = posO t) (h1 : (RS.new.feed t).md ≠ .back) (h2 : (RS.new.feed t).md ≠ .quoted) : MkOk (t ++ [x]) (s.plain x) (s.plain x).md := by
  unfold RS.plain
  by_cases a1 : x = 44
  · rw [if_pos a1]; exact trivial
  rw [if_neg a1]
  by_cases a2 : x = 13
  · rw [if_pos a2]
    exact ⟨t, by rw [a2], hp, h1, h2⟩
  rw [if_neg a2]
  repeat' split
  · show MkOk _ _ s.md; rw [hm]; exact trivial
  · show MkOk _ _ s.md; rw [hm]; exact trivial
  · show MkOk _ _ s.md; rw [hm]; exact trivial
  · rw [(put_md s x).1, hm]; exact trivial
theorem mk_start (hp : (s.line, s.col) = posO t) (h : (RS.new.feed t).md = .fresh ∨ (RS.new.feed t).md = .start) : MkOk (t ++ [x]) (s.start x) (s.start x).md := by
  unfold RS.start
  split
  · exact ⟨t, [x], rfl, hp, h⟩
  · exact mk_plain rfl hp (by rcases h with e | e <;> rw [e] <;> nofun) (by rcases h with e | e <;> rw [e] <;> nofun)
theorem mk_more {u v : List UInt8} {s' : RS} (h : ∃ u v, t = u ++ v ∧ (s.ml, s.mc) = posO u ∧ ((RS.new.feed u).md = .fresh ∨ (RS.new.feed u).md = .start)) (e1 : s'.ml = s.ml) (e2 : s'.mc = s.mc) : ∃ u v, t ++ [x] = u ++ v ∧ (s'.ml, s'.mc) = posO u ∧ ((RS.new.feed u).md = .fresh ∨ (RS.new.feed u).md = .start) := by
  obtain ⟨u, v, q1, q2, q3⟩ := h
  exact ⟨u, v ++ [x], by rw [q1]; simp, by rw [e1, e2]; exact q2, q3⟩
theorem mk_next (h : PI t s) (he : (RS.new.feed t).md = s.md) (hf : (s.next x).fault = none) : MkOk (t ++ [x]) (s.next x) (s.next x).md := by
  have hk := h.mark
  revert hf
  rcases next_cases s x with ⟨m, e⟩ | ⟨m, e⟩ | ⟨m, e⟩ | ⟨m, e⟩ | ⟨m, e⟩ | ⟨m, e⟩ <;> rw [e] <;> rw [m] at hk he <;> intro hf
  · unfold RS.fresh at hf ⊢
    by_cases h1 : s.count = 4096
    · rw [if_pos h1] at hf; cases hf
    · rw [if_neg h1]; exact mk_start h.pos (.inl he)
  · exact mk_start h.pos (.inr he)
  · exact mk_plain m h.pos (by rw [he]; nofun) (by rw [he]; nofun)
  · unfold RS.quoted at hf ⊢
    repeat' split
    · exact mk_more (u := t) (v := t) hk rfl rfl
    · show MkOk _ _ s.md; rw [m]; exact mk_more (u := t) (v := t) hk rfl rfl
    · obtain ⟨p1, p2, p3⟩ := put_md s x
      rw [p1, m]; exact mk_more (u := t) (v := t) hk p2 p3
  · unfold RS.closed at hf ⊢
    by_cases a1 : x = 34
    · rw [if_pos a1]
      obtain ⟨p1, p2, p3⟩ := put_md (s.turn .quoted) x
      rw [p1]; exact mk_more (u := t) (v := t) hk p2 p3
    rw [if_neg a1] at hf ⊢
    by_cases a2 : x = 44
    · rw [if_pos a2]; exact trivial
    rw [if_neg a2] at hf ⊢
    by_cases a3 : x = 13
    · rw [if_pos a3]; exact ⟨t, by rw [a3], h.pos, by rw [he]; nofun, by rw [he]; nofun⟩
    rw [if_neg a3] at hf ⊢
    by_cases a4 : x = 10
    · rw [if_pos a4] at hf; cases hf
    · rw [if_neg a4] at hf; cases hf
  · unfold RS.back at hf ⊢
    by_cases a1 : x = 10
    · rw [if_pos a1] at hf ⊢
      unfold RS.endRow at hf ⊢
      by_cases a2 : s.widen.row.length = s.widen.width
      · rw [if_pos a2]; exact trivial
      · rw [if_neg a2] at hf; cases hf
    · rw [if_neg a1] at hf; cases hf
theorem mk_all {s : RS} {n : Nat} {t : List UInt8} {m : Md} : MkOk t { s with all := n } m ↔ MkOk t s m := by cases m <;> exact Iff.rfl
theorem pi_step (h : PI t s) (he : s = RS.new.feed t) (hf : (s.step x).fault = none) : PI (t ++ [x]) (s.step x) := by
  by_cases hn : s.all = 262144
  · rw [RS.step, if_pos hn] at hf; cases hf
  · rw [step_on hn] at hf ⊢
    rw [on_fault] at hf
    have hk := kNext { s with all := s.all + 1 } x
    have hm := mk_next (x := x) (s := { s with all := s.all + 1 }) (t := t) ⟨h.pos, mk_all.2 h.mark⟩ (by rw [← he]) hf
    have hp : ((RS.next { s with all := s.all + 1 } x).line, (RS.next { s with all := s.all + 1 } x).col) = posO t := by rw [hk.line, hk.col]; exact h.pos
    generalize RS.next { s with all := s.all + 1 } x = r at hm hp
    have h1 := (Prod.mk.inj hp).1
    have h2 := (Prod.mk.inj hp).2
    unfold RS.on
    split
    · rename_i hx
      refine ⟨?_, ?_⟩
      · rw [posO_snoc]; unfold onPos; rw [if_pos hx, ← hp]
      · revert hm; show MkOk _ r r.md → MkOk _ { r with line := r.line + 1, col := 0 } r.md; cases r.md <;> exact id
    · rename_i hx
      refine ⟨?_, ?_⟩
      · rw [posO_snoc]; unfold onPos; rw [if_neg hx, ← hp]
      · revert hm; show MkOk _ r r.md → MkOk _ { r with col := r.col + 1 } r.md; cases r.md <;> exact id
end
theorem pi_feed : ∀ (l t : List UInt8), PI t (RS.new.feed t) → (RS.new.feed (t ++ l)).fault = none → PI (t ++ l) (RS.new.feed (t ++ l))
  | [], t, h, _ => by rw [List.append_nil]; exact h
  | x :: l, t, h, hf => by
    have e : t ++ x :: l = (t ++ [x]) ++ l := by simp
    rw [e] at hf ⊢
    have h0 : (RS.new.feed t).fault = none := by
      cases hq : (RS.new.feed t).fault with
      | none => rfl
      | some f => rw [feed_app, feed_app, feed_stop (s := RS.new.feed t) (by rw [hq]; simp), feed_stop (s := RS.new.feed t) (by rw [hq]; simp), hq] at hf; cases hf
    have h1 : (RS.new.feed (t ++ [x])).fault = none := by
      cases hq : (RS.new.feed (t ++ [x])).fault with
      | none => rfl
      | some f => rw [feed_app, feed_stop (by rw [hq]; simp), hq] at hf; cases hf
    refine pi_feed l (t ++ [x]) ?_ hf
    rw [feed_snoc _ _ _ h0] at h1 ⊢
    exact pi_step h rfl h1
theorem pi_of (t : List UInt8) (hf : (RS.new.feed t).fault = none) : PI t (RS.new.feed t) := pi_feed t [] pi_new hf
/-! ### faults -/
section
variable {t : List UInt8} {s : RS} {x : UInt8} {l c e : Nat}
theorem put_flt (h0 : s.fault = none) (h : (s.put x).fault = some (l, c, e)) : l = s.line ∧ c = s.col ∧ e = 5 := by
  unfold RS.put at h
  split at h
  · obtain ⟨rfl, rfl, rfl⟩ : s.line = l ∧ s.col = c ∧ 5 = e := by simpa [RS.fail] using h
    exact ⟨rfl, rfl, rfl⟩
  · rw [show ({ s with cell := s.cell ++ [x] } : RS).fault = s.fault from rfl, h0] at h; cases h
theorem comma_flt (h0 : s.fault = none) (h : s.comma.fault = some (l, c, e)) : l = s.line ∧ c = s.col ∧ e = 6 := by
  unfold RS.comma at h
  split at h
  · obtain ⟨rfl, rfl, rfl⟩ : s.line = l ∧ s.col = c ∧ 6 = e := by simpa [RS.fail, RS.turn] using h
    exact ⟨rfl, rfl, rfl⟩
  · rw [show (s.endCell.turn .start).fault = s.fault from rfl, h0] at h; cases h
def here (e : Nat) : Prop := e = 2 ∨ e = 3 ∨ e = 4 ∨ e = 5 ∨ e = 6 ∨ e = 7 ∨ e = 20
theorem fail_flt {a b d : Nat} (h : (s.fail a b d).fault = some (l, c, e)) : l = a ∧ c = b ∧ e = d := by
  obtain ⟨rfl, rfl, rfl⟩ : a = l ∧ b = c ∧ d = e := by simpa [RS.fail] using h
  exact ⟨rfl, rfl, rfl⟩
theorem plain_flt (h0 : s.fault = none) (h : (s.plain x).fault = some (l, c, e)) : l = s.line ∧ c = s.col ∧ here e := by
  unfold RS.plain at h
  unfold here
  repeat' split at h
  · obtain ⟨a, b, d⟩ := comma_flt h0 h; exact ⟨a, b, by omega⟩
  · rw [show s.cr.fault = s.fault from rfl, h0] at h; cases h
  · obtain ⟨a, b, d⟩ := fail_flt h; exact ⟨a, b, by omega⟩
  · obtain ⟨a, b, d⟩ := fail_flt h; exact ⟨a, b, by omega⟩
  · obtain ⟨a, b, d⟩ := fail_flt h; exact ⟨a, b, by omega⟩
  · obtain ⟨a, b, d⟩ := put_flt h0 h; exact ⟨a, b, by omega⟩
theorem start_flt (h0 : s.fault = none) (h : (s.start x).fault = some (l, c, e)) : l = s.line ∧ c = s.col ∧ here e := by
  unfold RS.start at h
  split at h
  · rw [show (s.mark.turn .quoted).fault = s.fault from rfl, h0] at h; cases h
  · exact plain_flt (s := s.turn .plain) h0 h
theorem endRow_flt {a b : Nat} (h0 : s.fault = none) (h : (s.endRow a b).fault = some (l, c, e)) : l = a ∧ c = b ∧ e = 8 := by
  have hw : s.widen.fault = s.fault := by unfold RS.widen; split <;> rfl
  unfold RS.endRow at h
  split at h
  · rw [show s.widen.newRow.fault = s.widen.fault from rfl, hw, h0] at h; cases h
  · exact fail_flt h
theorem next_flt (h0 : s.fault = none) (h : (s.next x).fault = some (l, c, e)) : (l = s.line ∧ c = s.col ∧ here e ∧ s.md ≠ .back) ∨ (l = s.ml ∧ c = s.mc ∧ (e = 3 ∨ e = 8) ∧ s.md = .back) := by
  revert h
  rcases next_cases s x with ⟨m, q⟩ | ⟨m, q⟩ | ⟨m, q⟩ | ⟨m, q⟩ | ⟨m, q⟩ | ⟨m, q⟩ <;> rw [q] <;> intro h
  · left
    unfold RS.fresh at h
    split at h
    · obtain ⟨a, b, d⟩ := fail_flt h; exact ⟨a, b, by unfold here; omega, by rw [m]; nofun⟩
    · obtain ⟨a, b, d⟩ := start_flt h0 h; exact ⟨a, b, d, by rw [m]; nofun⟩
  · left
    obtain ⟨a, b, d⟩ := start_flt h0 h; exact ⟨a, b, d, by rw [m]; nofun⟩
  · left
    obtain ⟨a, b, d⟩ := plain_flt h0 h; exact ⟨a, b, d, by rw [m]; nofun⟩
  · left
    unfold RS.quoted at h
    repeat' split at h
    · rw [show (s.turn .closed).fault = s.fault from rfl, h0] at h; cases h
    · obtain ⟨a, b, d⟩ := fail_flt h; exact ⟨a, b, by unfold here; omega, by rw [m]; nofun⟩
    · obtain ⟨a, b, d⟩ := put_flt h0 h; exact ⟨a, b, by unfold here; omega, by rw [m]; nofun⟩
  · left
    unfold RS.closed at h
    repeat' split at h
    · obtain ⟨a, b, d⟩ := put_flt (s := s.turn .quoted) h0 h; exact ⟨a, b, by unfold here; omega, by rw [m]; nofun⟩
    · obtain ⟨a, b, d⟩ := comma_flt h0 h; exact ⟨a, b, by unfold here; omega, by rw [m]; nofun⟩
    · rw [show s.cr.fault = s.fault from rfl, h0] at h; cases h
    · obtain ⟨a, b, d⟩ := fail_flt h; exact ⟨a, b, by unfold here; omega, by rw [m]; nofun⟩
    · obtain ⟨a, b, d⟩ := fail_flt h; exact ⟨a, b, by unfold here; omega, by rw [m]; nofun⟩
  · right
    unfold RS.back at h
    split at h
    · obtain ⟨a, b, d⟩ := endRow_flt h0 h; exact ⟨a, b, .inr d, m⟩
    · obtain ⟨a, b, d⟩ := fail_flt h; exact ⟨a, b, .inl d, m⟩
end
/-- what a text's end shows, there being no fault -/
theorem fin_flt {s : RS} (h0 : s.fault = none) {l c e : Nat} (h : s.fin.fault = some (l, c, e)) :
    (e = 8 ∧ l = s.line ∧ c = s.col ∧ s.md ≠ .back ∧ s.md ≠ .quoted) ∨ (e = 1 ∧ l = s.ml ∧ c = s.mc ∧ s.md = .quoted) ∨ (e = 3 ∧ l = s.ml ∧ c = s.mc ∧ s.md = .back) := by
  unfold RS.fin at h
  rw [if_pos h0] at h
  unfold RS.over at h
  cases hm : s.md <;> rw [hm] at h <;> simp only at h
  · rw [h0] at h; cases h
  · obtain ⟨a, b, d⟩ := endRow_flt (s := s.endCell) h0 h; exact .inl ⟨d, a, b, by nofun, by nofun⟩
  · obtain ⟨a, b, d⟩ := endRow_flt (s := s.endCell) h0 h; exact .inl ⟨d, a, b, by nofun, by nofun⟩
  · obtain ⟨a, b, d⟩ := fail_flt h; exact .inr (.inl ⟨d, a, b, rfl⟩)
  · obtain ⟨a, b, d⟩ := endRow_flt (s := s.endCell) h0 h; exact .inl ⟨d, a, b, by nofun, by nofun⟩
  · obtain ⟨a, b, d⟩ := fail_flt h; exact .inr (.inr ⟨d, a, b, rfl⟩)
theorem parse_flt (t : List UInt8) : (parseO t).2 = if (RS.new.feed t).fault = none then (RS.new.feed t).fin.fault else (RS.new.feed t).fault := by
  obtain ⟨_, e2⟩ := fin_bare (RS.new.feed t)
  unfold parseO
  by_cases h0 : (RS.new.feed t).fault = none
  · rw [if_neg (by rw [h0]; simp), if_pos h0, e2]
    by_cases h1 : (RS.fin { RS.new.feed t with rows := [] }).fault = none
    · rw [if_neg (by rw [h1]; simp), h1]
    · rw [if_pos h1]
  · rw [if_pos h0, if_neg h0]
/-- the bytes ahead of a place, none of which shows a fault: what their end makes -/
def Ahead (e : Nat) (u : List UInt8) : Prop := (parseO u).2 = none ∨ ∃ l' c' e', (parseO u).2 = some (l', c', e') ∧ (e' = 1 ∨ e' = 8 ∨ (e' = 3 ∧ e = 20))
theorem ahead_of {e : Nat} (u : List UInt8) (h : (RS.new.feed u).fault = none) (hb : (RS.new.feed u).md = .back → e = 20) : Ahead e u := by
  unfold Ahead
  rw [parse_flt, if_pos h]
  cases hq : (RS.new.feed u).fin.fault with
  | none => exact .inl rfl
  | some f =>
    obtain ⟨l, c, d⟩ := f
    refine .inr ⟨l, c, d, rfl, ?_⟩
    rcases fin_flt h hq with ⟨a, _⟩ | ⟨a, _⟩ | ⟨a, _, _, b⟩
    · exact .inr (.inl a)
    · exact .inl a
    · exact .inr (.inr ⟨a, hb b⟩)
theorem feed_left {u v : List UInt8} (h : (RS.new.feed (u ++ v)).fault = none) : (RS.new.feed u).fault = none := by
  cases hq : (RS.new.feed u).fault with
  | none => rfl
  | some f => rw [feed_app, feed_stop (by rw [hq]; simp), hq] at h; cases h
/-- the first byte that shows a fault -/
theorem first_bad : ∀ (v u : List UInt8), (RS.new.feed u).fault = none → (RS.new.feed (u ++ v)).fault ≠ none → ∃ u' x v', u ++ v = u' ++ x :: v' ∧ (RS.new.feed u').fault = none ∧ ((RS.new.feed u').step x).fault ≠ none
  | [], u, h, hn => by rw [List.append_nil] at hn; exact absurd h hn
  | x :: v, u, h, hn => by
    by_cases hx : ((RS.new.feed u).step x).fault = none
    · have h1 : (RS.new.feed (u ++ [x])).fault = none := by rw [feed_snoc _ _ _ h]; exact hx
      have e : u ++ x :: v = (u ++ [x]) ++ v := by simp
      rw [e] at hn ⊢
      exact first_bad v (u ++ [x]) h1 hn
    · exact ⟨u, x, v, rfl, h, hx⟩
theorem first_law (t : List UInt8) (l c e : Nat) (h : (parseO t).2 = some (l, c, e)) : ∃ u v, t = u ++ v ∧ (l, c) = posO u ∧ Ahead e u ∧
    (e = 1 ∨ e = 8 ∨ e = 3 ∨ ∃ x v', v = x :: v' ∧ ∀ m, (parseO (u ++ x :: m)).2 = some (l, c, e)) := by
  have hP := h
  rw [parse_flt] at h
  by_cases h0 : (RS.new.feed t).fault = none
  · rw [if_pos h0] at h
    have hpi := pi_of t h0
    have hk := hpi.mark
    rcases fin_flt h0 h with ⟨a, b, d, m1, m2⟩ | ⟨a, b, d, m⟩ | ⟨a, b, d, m⟩
    · exact ⟨t, [], by simp, by rw [b, d]; exact hpi.pos, .inr ⟨l, c, e, hP, .inr (.inl a)⟩, .inr (.inl a)⟩
    · rw [m] at hk
      obtain ⟨u, v, q1, q2, q3⟩ := hk
      exact ⟨u, v, q1, by rw [b, d]; exact q2, ahead_of u (feed_left (v := v) (by rw [← q1]; exact h0)) (fun k => by rcases q3 with z | z <;> rw [z] at k <;> cases k), .inl a⟩
    · rw [m] at hk
      obtain ⟨u, q1, q2, q3, q4⟩ := hk
      exact ⟨u, [13], q1, by rw [b, d]; exact q2, ahead_of u (feed_left (v := [13]) (by rw [← q1]; exact h0)) (fun k => absurd k q3), .inr (.inr (.inl a))⟩
  · rw [if_neg h0] at h
    obtain ⟨u, x, v, e1, hu, hx⟩ := first_bad t [] rfl (by simpa using h0)
    rw [List.nil_append] at e1
    have hpi := pi_of u hu
    have hk := hpi.mark
    have hall : ∀ m, (RS.new.feed (u ++ x :: m)).fault = ((RS.new.feed u).step x).fault := fun m => by
      rw [feed_app, feed_cons hu, feed_stop hx]
    have hfx : ((RS.new.feed u).step x).fault = some (l, c, e) := by rw [← hall v, ← e1]; exact h
    have hmore : ∀ m, (parseO (u ++ x :: m)).2 = some (l, c, e) := fun m => by
      rw [parse_flt, if_neg (by rw [hall m]; exact hx), hall m, hfx]
    by_cases hn : (RS.new.feed u).all = 262144
    · rw [RS.step, if_pos hn] at hfx
      obtain ⟨a, b, d⟩ := fail_flt hfx
      exact ⟨u, x :: v, e1, by rw [a, b]; exact hpi.pos, ahead_of u hu (fun _ => d), .inr (.inr (.inr ⟨x, v, rfl, hmore⟩))⟩
    · rw [step_on hn, on_fault] at hfx
      rcases next_flt (s := { RS.new.feed u with all := (RS.new.feed u).all + 1 }) hu hfx with ⟨a, b, d, m⟩ | ⟨a, b, d, m⟩
      · exact ⟨u, x :: v, e1, by rw [a, b]; exact hpi.pos, ahead_of u hu (fun k => absurd k m), .inr (.inr (.inr ⟨x, v, rfl, hmore⟩))⟩
      · have m' : (RS.new.feed u).md = .back := m
        rw [m'] at hk
        obtain ⟨u', q1, q2, q3, q4⟩ := hk
        refine ⟨u', 13 :: x :: v, by rw [e1, q1]; simp, by rw [a, b]; exact q2, ahead_of u' (feed_left (v := [13]) (by rw [← q1]; exact hu)) (fun k => absurd k q3), ?_⟩
        rcases d with d | d
        · exact .inr (.inr (.inl d))
        · exact .inr (.inl d)
end Go.Proofs.YtappphffbnkloaaGreatDoor.Sht
set_option linter.unusedVariables false
set_option linter.unusedSimpArgs false
namespace Go.Proofs.YtappphffbnkloaaGreatDoor.Sht
structure Ft (n : Nat) (s : RS) : Prop where
  line : s.line ≤ n + 1
  col : s.col ≤ n
  ml : s.ml ≤ n + 1
  mc : s.mc ≤ n
  flt : ∀ l c e, s.fault = some (l, c, e) → l ≤ 262145 ∧ c ≤ 262144 ∧ coded e ∧ e ≠ 1 ∧ e ≠ 9
section
variable {n : Nat} {s : RS}
theorem Ft.fail (h : Ft n s) (hn : n ≤ 262144) {l c : Nat} (hl : l ≤ n + 1) (hc : c ≤ n) (e : Nat) (he : coded e) (h1 : e ≠ 1) (h9 : e ≠ 9) : Ft n (s.fail l c e) :=
  ⟨h.line, h.col, h.ml, h.mc, fun l' c' e' q => by
    have : some (l, c, e) = some (l', c', e') := q
    cases this
    exact ⟨by omega, by omega, he, h1, h9⟩⟩
theorem Ft.turn (h : Ft n s) (m : Md) : Ft n (s.turn m) := ⟨h.line, h.col, h.ml, h.mc, h.flt⟩
theorem Ft.mark (h : Ft n s) : Ft n s.mark := ⟨h.line, h.col, h.line, h.col, h.flt⟩
theorem Ft.endCell (h : Ft n s) : Ft n s.endCell := ⟨h.line, h.col, h.ml, h.mc, h.flt⟩
theorem Ft.widen (h : Ft n s) : Ft n s.widen := by
  unfold RS.widen
  split
  · exact ⟨h.line, h.col, h.ml, h.mc, h.flt⟩
  · exact h
theorem Ft.newRow (h : Ft n s) : Ft n s.newRow := ⟨h.line, h.col, h.ml, h.mc, h.flt⟩

theorem Ft.endRow (h : Ft n s) (hn : n ≤ 262144) {l c : Nat} (hl : l ≤ n + 1) (hc : c ≤ n) : Ft n (s.endRow l c) := by
  unfold RS.endRow
  split
  · exact h.widen.newRow
  · exact h.widen.fail hn hl hc 8 (by unfold coded; omega) (by decide) (by decide)
theorem Ft.put (h : Ft n s) (hn : n ≤ 262144) (x : UInt8) : Ft n (s.put x) := by
  unfold RS.put
  have h' : Ft n { s with cell := s.cell ++ [x] } := ⟨h.line, h.col, h.ml, h.mc, h.flt⟩
  split
  · exact h'.fail hn h.line h.col 5 (by unfold coded; omega) (by decide) (by decide)
  · exact h'
theorem Ft.comma (h : Ft n s) (hn : n ≤ 262144) : Ft n s.comma := by
  unfold RS.comma
  split
  · exact (h.endCell.fail hn h.line h.col 6 (by unfold coded; omega) (by decide) (by decide)).turn _
  · exact h.endCell.turn _
theorem Ft.cr (h : Ft n s) : Ft n s.cr := h.endCell.mark.turn _
theorem Ft.here (h : Ft n s) (hn : n ≤ 262144) (e : Nat) (he : coded e) (h1 : e ≠ 1) (h9 : e ≠ 9) : Ft n (s.fail s.line s.col e) := h.fail hn h.line h.col e he h1 h9
theorem Ft.plain (h : Ft n s) (hn : n ≤ 262144) (x : UInt8) : Ft n (s.plain x) := by
  unfold RS.plain
  repeat' split
  all_goals first | exact h.comma hn | exact h.cr | exact h.put hn x | exact h.here hn _ (by unfold coded; omega) (by decide) (by decide)
theorem Ft.quoted (h : Ft n s) (hn : n ≤ 262144) (x : UInt8) : Ft n (s.quoted x) := by
  unfold RS.quoted
  repeat' split
  all_goals first | exact h.turn _ | exact h.put hn x | exact h.here hn _ (by unfold coded; omega) (by decide) (by decide)
theorem Ft.closed (h : Ft n s) (hn : n ≤ 262144) (x : UInt8) : Ft n (s.closed x) := by
  unfold RS.closed
  repeat' split
  all_goals first | exact h.comma hn | exact h.cr | exact (h.turn _).put hn x | exact h.here hn _ (by unfold coded; omega) (by decide) (by decide)
theorem Ft.back (h : Ft n s) (hn : n ≤ 262144) (x : UInt8) : Ft n (s.back x) := by
  unfold RS.back
  split
  · exact h.endRow hn h.ml h.mc
  · exact h.fail hn h.ml h.mc 3 (by unfold coded; omega) (by decide) (by decide)
theorem Ft.start (h : Ft n s) (hn : n ≤ 262144) (x : UInt8) : Ft n (s.start x) := by
  unfold RS.start
  split
  · exact h.mark.turn _
  · exact (h.turn _).plain hn x
theorem Ft.fresh (h : Ft n s) (hn : n ≤ 262144) (x : UInt8) : Ft n (s.fresh x) := by
  unfold RS.fresh
  split
  · exact h.here hn 7 (by unfold coded; omega) (by decide) (by decide)
  · exact h.start hn x
theorem Ft.next (h : Ft n s) (hn : n ≤ 262144) (x : UInt8) : Ft n (s.next x) := by
  unfold RS.next
  split
  · exact h.fresh hn x
  · exact h.start hn x
  · exact h.plain hn x
  · exact h.quoted hn x
  · exact h.closed hn x
  · exact h.back hn x
theorem Ft.step (h : Ft n s) (hn : n + 1 ≤ 262144) (x : UInt8) (ha : s.all ≠ 262144) : Ft (n + 1) (s.step x) := by
  unfold RS.step
  rw [if_neg ha]
  have h1 : Ft n { s with all := s.all + 1 } := ⟨h.line, h.col, h.ml, h.mc, h.flt⟩
  have h2 := h1.next (by omega) x
  unfold RS.on
  split
  · exact ⟨by have := h2.line; show _ + 1 ≤ _; omega, Nat.zero_le _, by have := h2.ml; show _ ≤ n + 1 + 1; exact Nat.le_succ_of_le this, by have := h2.mc; exact Nat.le_succ_of_le this, h2.flt⟩
  · exact ⟨by have := h2.line; exact Nat.le_succ_of_le this, by have := h2.col; show _ + 1 ≤ _; omega, by have := h2.ml; exact Nat.le_succ_of_le this, by have := h2.mc; exact Nat.le_succ_of_le this, h2.flt⟩
end
theorem next_all (s : RS) (x : UInt8) : (s.next x).all = s.all := by
  have w : ∀ s : RS, s.widen.all = s.all := fun s => by unfold RS.widen; split <;> rfl
  have p : ∀ (s : RS) (x : UInt8), (s.put x).all = s.all := fun s x => by unfold RS.put; split <;> rfl
  have cm : ∀ s : RS, s.comma.all = s.all := fun s => by unfold RS.comma; split <;> rfl
  have er : ∀ (s : RS) (l c : Nat), (s.endRow l c).all = s.all := fun s l c => by unfold RS.endRow; split <;> exact w s
  have pl : ∀ (s : RS) (x : UInt8), (s.plain x).all = s.all := fun s x => by
    unfold RS.plain; repeat' split
    all_goals first | exact cm s | exact p s x | rfl
  have st : ∀ (s : RS) (x : UInt8), (s.start x).all = s.all := fun s x => by
    unfold RS.start; split
    · rfl
    · exact pl (s.turn .plain) x
  unfold RS.next
  split
  · unfold RS.fresh; split
    · rfl
    · exact st s x
  · exact st s x
  · exact pl s x
  · unfold RS.quoted; repeat' split
    all_goals first | exact p s x | rfl
  · unfold RS.closed; repeat' split
    all_goals first | exact cm s | exact p (s.turn .quoted) x | rfl
  · unfold RS.back; split
    · exact er s _ _
    · rfl
theorem step_all {s : RS} (x : UInt8) (ha : s.all ≠ 262144) : (s.step x).all = s.all + 1 := by
  unfold RS.step
  rw [if_neg ha]
  have := next_all { s with all := s.all + 1 } x
  unfold RS.on
  split <;> exact this
theorem Ft.feed : ∀ (l : List UInt8) (s : RS), s.all ≤ 262144 → Ft s.all s → ∃ n, Ft n (s.feed l)
  | [], s, _, h => ⟨_, h⟩
  | x :: l, s, ha, h => by
    by_cases hf : s.fault = none
    · rw [feed_cons hf]
      by_cases hx : s.all = 262144
      · have e : s.step x = s.fail s.line s.col 20 := by unfold RS.step; rw [if_pos hx]
        rw [e, feed_stop (by show some _ ≠ none; simp)]
        exact ⟨_, h.here (by omega) 20 (by unfold coded; omega) (by decide) (by decide)⟩
      · exact Ft.feed l _ (by rw [step_all x hx]; omega) (by rw [step_all x hx]; exact h.step (by omega) x hx)
    · rw [feed_stop hf]; exact ⟨_, h⟩
/-- a fault of a text that was fed -/
theorem fed_fault {t : List UInt8} {l c e : Nat} (h : (RS.new.feed t).fault = some (l, c, e)) : l ≤ 262145 ∧ c ≤ 262144 ∧ coded e ∧ e ≠ 1 ∧ e ≠ 9 := by
  obtain ⟨n, hn⟩ := Ft.feed t RS.new (by decide) ⟨by decide, by decide, by decide, by decide, fun l c e q => by cases q⟩
  exact hn.flt l c e h
end Go.Proofs.YtappphffbnkloaaGreatDoor.Sht
set_option linter.unusedVariables false
set_option linter.unusedSimpArgs false
namespace Go.Proofs.YtappphffbnkloaaGreatDoor.Sht
theorem next_rows (s : RS) (x : UInt8) : (s.next x).rows.length ≤ s.rows.length + 1 := by
  have w : ∀ s : RS, s.widen.rows = s.rows := fun s => by unfold RS.widen; split <;> rfl
  have p : ∀ (s : RS) (x : UInt8), (s.put x).rows = s.rows := fun s x => by unfold RS.put; split <;> rfl
  have cm : ∀ s : RS, s.comma.rows = s.rows := fun s => by unfold RS.comma; split <;> rfl
  have er : ∀ (s : RS) (l c : Nat), (s.endRow l c).rows.length ≤ s.rows.length + 1 := fun s l c => by
    unfold RS.endRow; split
    · show (s.widen.rows ++ [s.widen.row]).length ≤ _; rw [w]; simp
    · show s.widen.rows.length ≤ _; rw [w]; omega
  have pl : ∀ (s : RS) (x : UInt8), (s.plain x).rows = s.rows := fun s x => by
    unfold RS.plain; repeat' split
    all_goals first | exact cm s | exact p s x | rfl
  have st : ∀ (s : RS) (x : UInt8), (s.start x).rows = s.rows := fun s x => by
    unfold RS.start; split
    · rfl
    · exact pl (s.turn .plain) x
  unfold RS.next
  split
  · unfold RS.fresh; split
    · show s.rows.length ≤ _; omega
    · rw [st s x]; omega
  · rw [st s x]; omega
  · rw [pl s x]; omega
  · have : (s.quoted x).rows = s.rows := by
      unfold RS.quoted; repeat' split
      all_goals first | exact p s x | rfl
    rw [this]; omega
  · have : (s.closed x).rows = s.rows := by
      unfold RS.closed; repeat' split
      all_goals first | exact cm s | exact p (s.turn .quoted) x | rfl
    rw [this]; omega
  · unfold RS.back; split
    · exact er s _ _
    · show s.rows.length ≤ _; omega
theorem feed_rows_le : ∀ (l : List UInt8) (s : RS), s.all ≤ 262144 → (s.feed l).rows.length + s.all ≤ s.rows.length + 262145
  | [], s, h => by show s.rows.length + s.all ≤ _; omega
  | x :: l, s, h => by
    by_cases hf : s.fault = none
    · rw [feed_cons hf]
      by_cases ha : s.all = 262144
      · have e : s.step x = s.fail s.line s.col 20 := by unfold RS.step; rw [if_pos ha]
        rw [e, feed_stop (by show some _ ≠ none; simp)]
        show s.rows.length + s.all ≤ _
        omega
      · have h1 := step_all x ha
        have h2 : (s.step x).rows.length ≤ s.rows.length + 1 := by
          unfold RS.step
          rw [if_neg ha]
          have := next_rows { s with all := s.all + 1 } x
          unfold RS.on
          split <;> exact this
        have := feed_rows_le l (s.step x) (by rw [h1]; omega)
        rw [h1] at this
        omega
    · rw [feed_stop hf]; omega
theorem new_rows_le (l : List UInt8) : (RS.new.feed l).rows.length ≤ 262145 := by
  have := feed_rows_le l RS.new (by decide)
  simpa [RS.new] using this
end Go.Proofs.YtappphffbnkloaaGreatDoor.Sht
set_option linter.unusedVariables false
set_option linter.unusedSimpArgs false
namespace Go.Proofs.YtappphffbnkloaaGreatDoor.Sht
open Go Go.RowKit Go.Joins
variable {A : Nat → Addr} {W0 W : World} {b : Nat} {s : RS}
def Got (W0 W : World) (b : Nat) (v : Value) (rs : Rows) : Prop := ∃ lv, W.ownsRow W0.heap.size 28 1 v rs.length lv ∧ RowsAt W W0.heap.size lv rs ∧ ∀ j ∈ ob v ++ lv.flatMap ob, ¬ wr W b j
theorem told_got {v : Value} {rs : Rows} (h : ToldAt W0 W b v rs) : Got W0 W b v rs := by
  obtain ⟨lv, h1, h2, _, h4⟩ := h
  exact ⟨lv, h1, h2, h4⟩
theorem got_nil : Got W0 W b (.slice none 0 0) [] := ⟨[], World.ownsRow_nil _ _ _ _, trivial, fun j hj => by simp [ob, Value.ownBlock] at hj⟩
theorem Got.good {v : Value} {rs : Rows} (h : Got W0 W b v rs) : GoodRows W0.heap.size W v rs := by
  obtain ⟨lv, h1, h2, _⟩ := h
  exact ⟨lv, h1, h2⟩
theorem Got.fr {v : Value} {rs : Rows} {w w' : World} (h : Got W0 w b v rs) (k : Fr b w w') : Got W0 w' b v rs := by
  obtain ⟨lv, h1, h2, h4⟩ := h
  have hlt := ToldAt.lt h1 h2
  have same : ∀ j ∈ ob v ++ lv.flatMap ob, w'.heap[j]? = w.heap[j]? := fun j hj => k.keep j (hlt j hj).2 (h4 j hj)
  exact ⟨lv, ownsRow_kept h1 fun j hj => same j (List.mem_append_left _ (mem_ob.2 hj)), rowsAt_kept h2 fun j hj => same j (List.mem_append_right _ hj), fun j hj hw => by
    rcases k.own j hw with e | e
    · exact h4 j hj e
    · have := (hlt j hj).2; omega⟩
/-- a Reader and other rows behind an append to rows that are not the Reader's -/
theorem got_grown {w w' : World} {v : Value} {G : Rows} (h1 : Got W0 w b v G) (hR : R A W0 w b s) (hs : s.rows = [])
    (hg : w.grownBy w' v.ownBlock) :
    R A W0 w' b s ∧ (∀ j, j < w.heap.size → some j ≠ v.ownBlock → w'.heap[j]? = w.heap[j]?) ∧ (∀ j, wr w' b j ↔ wr w b j) := by
  obtain ⟨lv, g1, g2, g3⟩ := h1
  obtain ⟨vc, vr, vl, fl, ls, h⟩ := hR
  have hlt := ToldAt.lt g1 g2
  have hbase : ∀ j, some j = v.ownBlock → W0.heap.size ≤ j := fun j e => (hlt j (List.mem_append_left _ (mem_ob.2 e.symm))).1
  have hbel : Below W0.heap.size w w' := ⟨hg.os, hg.tape, hg.output, hg.size, fun k hk => hg.block k (Nat.lt_of_lt_of_le hk h.below.size) (fun e => by have := hbase k e; omega)⟩
  have hnb : some b ≠ v.ownBlock := fun e => g3 b (List.mem_append_left _ (mem_ob.2 e.symm)) (.inl rfl)
  have hbb : w'.heap[b]? = w.heap[b]? := hg.block b (h.all_lt b (by simp)) hnb
  have hls : ls = [] := by
    have := h.rws
    rw [hs] at this
    cases ls with
    | nil => rfl
    | cons x l => exact this.elim
  refine ⟨R.mk (h.kept hbel fun j hj => hg.block j (h.all_lt j hj) fun e => ?_), fun j hj hn => hg.block j hj hn, fun j => ?_⟩
  · have hw := g3 j (List.mem_append_left _ (mem_ob.2 e.symm))
    rw [h.wr_iff] at hw
    simp only [List.mem_cons, List.mem_append] at hj
    rcases hj with hj | hj | hj | hj | hj | hj
    · exact hw (.inl hj)
    · exact hw (.inr (.inl (mem_ob.1 hj)))
    · exact hw (.inr (.inr (.inl (mem_ob.1 hj))))
    · exact hw (.inr (.inr (.inr (mem_ob.1 hj))))
    · obtain ⟨cs, hc⟩ := kind_row g1 j e.symm
      have hf := h.flt
      cases hsf : s.fault with
      | none =>
        rw [hsf] at hf
        simp only [FaultAt] at hf
        subst hf
        simp [fb] at hj
      | some f =>
        obtain ⟨l, c, e'⟩ := f
        rw [hsf] at hf
        obtain ⟨_, g, _, rfl, hgc⟩ := hf
        have : j = g := by simpa [fb] using hj
        subst this
        rw [hc] at hgc
        have := (Obj.cells.inj (Option.some.inj hgc)).2.1
        revert this
        decide
    · rw [hls] at hj; simp at hj
  · unfold wr
    have hc : ∀ o, w'.cell? ⟨b, o, none⟩ = w.cell? ⟨b, o, none⟩ := fun o => World.cell?_of_block (a := ⟨b, o, none⟩) hbb
    simp only [hc]
theorem rowsAt_grown {w w' : World} {B : Nat} {v : Value} {n : Nat} {xs lv : List Value} {rs : Rows} (hv : w.ownsRow B 28 1 v n xs) (hg : w.grownBy w' v.ownBlock) (h : RowsAt w B lv rs) : RowsAt w' B lv rs := good_grown hv hg h
theorem errAt_keep {w w' : World} {v : Value} {n : Nat} {xs : List Value} {B0 : Nat} (g1 : w.ownsRow B0 28 1 v n xs) (hk : ∀ j, j < w.heap.size → some j ≠ v.ownBlock → w'.heap[j]? = w.heap[j]?) (hw : ∀ j, wr w' b j ↔ wr w b j) {B : Nat} {ve : Value} {f : Option (Nat × Nat × Nat)} (h : ErrAt w B A b ve f) : ErrAt w' B A b ve f := by
  obtain ⟨h1, h2⟩ := h
  refine ⟨?_, fun j hj q => h2 j hj ((hw j).1 q)⟩
  cases f with
  | none => exact h1
  | some f =>
    obtain ⟨l, c, e⟩ := f
    obtain ⟨hc, g, hB, rfl, hg⟩ := h1
    refine ⟨hc, g, hB, rfl, (hk g (blt hg) fun e' => ?_).trans hg⟩
    obtain ⟨cs, hcs⟩ := kind_row g1 g e'.symm
    rw [hg] at hcs
    have := (Obj.cells.inj (Option.some.inj hcs)).2.1
    revert this
    decide
set_option maxHeartbeats 1000000 in
theorem wpList_append_got {w : World} {ops : Array Oper} {rest : List Oper} {o : Oper} {a : Act} {Q : Exit → Act → World → Prop} (hgd : o.guard = none) (x y : Operand)
    (ho : o.op = .call { callee := .builtin .append, args := #[x, y], argTypes := #[30, 30] })
    {i : TypeInfo} {z : Value} (hi : Tryz.prog.info? 28 = some i) (hz : i.zero = some z) (hsize : i.size = 1) (hby : i.bytes = 24) (hzs : z.cells.size = 1)
    {v v3 : Value} {G L : Rows} (hs : a.eval x = v) (hx : a.eval y = v3) (h1 : Got W0 w b v G) (h2 : Got W0 w b v3 L) (hR : R A W0 w b s) (hrows : s.rows = []) (hlen : G.length + L.length ≤ 4000000000000)
    (K : ∀ v' w', Got W0 w' b v' (G ++ L) → R A W0 w' b s → (∀ (B : Nat) (ve : Value) (f : Option (Nat × Nat × Nat)), ErrAt w B A b ve f → ErrAt w' B A b ve f) → wpList Tryz.prog ops Q rest (a.put o.dst v') w') : wpList Tryz.prog ops Q (o :: rest) a w := by
  have hR0 := hR
  obtain ⟨lv, g1, g2, g3⟩ := h1
  obtain ⟨lv3, k1, k2, k3⟩ := h2
  have fin : ∀ v' w', w'.ownsRow W0.heap.size 28 1 v' (G.length + L.length) (lv ++ lv3) → w.grownBy w' v.ownBlock → (v'.ownBlock = v.ownBlock ∨ v'.ownBlock = some w.heap.size) → wpList Tryz.prog ops Q rest (a.put o.dst v') w' := fun v' w' q1 q2 q4 => by
    obtain ⟨e1, e2, e3⟩ := got_grown ⟨lv, g1, g2, g3⟩ hR hrows q2
    refine K v' w' ⟨lv ++ lv3, by rw [List.length_append]; exact q1, rowsAt_app (rowsAt_grown g1 q2 g2) (rowsAt_grown g1 q2 k2), fun j hj hw => ?_⟩ e1 (fun B ve f h => errAt_keep g1 e2 e3 h)
    rw [e3] at hw
    rw [List.flatMap_append, List.mem_append, List.mem_append] at hj
    rcases hj with hj | hj | hj
    · rcases q4 with e | e
      · exact g3 j (List.mem_append_left _ (mem_ob.2 (by rw [← e]; exact mem_ob.1 hj))) hw
      · have hj' := mem_ob.1 hj
        rw [e] at hj'
        have := hR.wr_lt hw
        have : w.heap.size = j := by simpa using hj'
        omega
    · exact g3 j (List.mem_append_right _ hj) hw
    · exact k3 j (List.mem_append_right _ hj) hw
  rcases ownsRow_forms k1 with ⟨rfl, e⟩ | ⟨g, cap, rfl⟩
  · have hl3 : lv3 = [] := List.eq_nil_of_length_eq_zero (by rw [k1.1, e])
    subst hl3
    refine wpList_append_own_none hgd x y 30 ho W0.heap.size 28 i 1 Tryz.underlying30 hi v G.length lv hs g1 hx ?_
    exact fin v w (by rw [e, Nat.add_zero, List.append_nil]; exact g1) ⟨rfl, rfl, rfl, Nat.le_refl _, fun _ _ _ => rfl⟩ (.inl rfl)
  · exact wpList_append_own_at w hgd x y 30 ho W0.heap.size 28 i z 1 24 Tryz.underlying30 hi hz hsize hby hzs (by omega) v G.length lv hs g1 ⟨g, 0, none⟩ L.length cap lv3 hx (by simpa using k1.1) (fun j u hj => k1.cells rfl j u hj) (one_rows k2)
      (by simp only [maxLen]; omega) (by omega) hR.base.size (fun v' w' q1 q2 _ q4 => fin v' w' q1 q2 q4)
end Go.Proofs.YtappphffbnkloaaGreatDoor.Sht
set_option linter.unusedVariables false
set_option linter.unusedSimpArgs false
namespace Go.Proofs.YtappphffbnkloaaGreatDoor.Sht
open Go Go.RowKit Go.Joins
variable {A : Nat → Addr} {w wr : World} {b : Nat}
theorem piece_feed (hF : SF w A) (hE : ET w) {l0 : List UInt8} (hR : R A w wr b (RS.new.feed l0).bare) (hf : (RS.new.feed l0).fault = none) (m : ByteArray) (hm : m.size ≤ 4611686018427387904) :
    Calls Tryz.prog 15 #[PT b, .slice (some ⟨wr.heap.size, 0, none⟩) m.size (grownCap wr m.size 0 5)] (Lib.bytesWorld wr 5 m) fun ev w' =>
      ∃ vl ve L, ev = .returned (.tuple #[vl, ve]) ∧ R A w w' b (RS.new.feed (l0 ++ m.data.toList)).bare ∧ Got w w' b vl L ∧ (RS.new.feed (l0 ++ m.data.toList)).rows = (RS.new.feed l0).rows ++ L ∧ ErrAt w' wr.heap.size A b ve (RS.new.feed (l0 ++ m.data.toList)).fault ∧ Fr b wr w' := by
  have hL := live_told (live_feed l0 RS.new (fun _ => inv_new))
  refine (feed_text hF hE hR hL (fun l c e => by
    have : (RS.new.feed l0).fault = some (l, c, 9) := e
    rw [hf] at this
    cases this) m hm).mono ?_
  rintro ev w' ⟨vl, ve, rfl, h1, h2, h3, h4⟩
  obtain ⟨e1, e2, e3⟩ := bare_feed (RS.new.feed l0) m.data.toList
  rw [← feed_app] at e1 e2 e3
  refine ⟨vl, ve, _, rfl, ?_, told_got h2, e1, ?_, h4⟩
  · rw [e2]; exact h1
  · rw [e3]; exact h3
/-- the fault of a text's end: its place is small -/
theorem over_fault {t : List UInt8} {l c e : Nat} (h0 : (RS.new.feed t).fault = none) (h : (RS.new.feed t).bare.fin.fault = some (l, c, e)) : l ≤ 262145 ∧ c ≤ 262144 ∧ coded e ∧ e ≠ 9 := by
  have hA : ∃ n, n ≤ 262144 ∧ Ft n (RS.new.feed t) := by
    have go : ∀ (l : List UInt8) (s : RS), s.all ≤ 262144 → Ft s.all s → ∃ n, n ≤ 262144 ∧ Ft n (s.feed l) := by
      intro l
      induction l with
      | nil => intro s ha h; exact ⟨_, ha, h⟩
      | cons x l ih =>
        intro s ha h
        by_cases hf : s.fault = none
        · rw [feed_cons hf]
          by_cases hx : s.all = 262144
          · have e : s.step x = s.fail s.line s.col 20 := by unfold RS.step; rw [if_pos hx]
            rw [e, feed_stop (by show some _ ≠ none; simp)]
            exact ⟨_, ha, h.here (by omega) 20 (by unfold coded; omega) (by decide) (by decide)⟩
          · exact ih _ (by rw [step_all x hx]; omega) (by rw [step_all x hx]; exact h.step (by omega) x hx)
        · rw [feed_stop hf]; exact ⟨_, ha, h⟩
    exact go t RS.new (by decide) ⟨by decide, by decide, by decide, by decide, fun l c e q => by cases q⟩
  obtain ⟨n, hn, hFt⟩ := hA
  generalize RS.new.feed t = s at h0 h hFt
  have hb : Ft n s.bare := ⟨hFt.line, hFt.col, hFt.ml, hFt.mc, hFt.flt⟩
  have hf0 : s.bare.fault = none := h0
  unfold RS.fin at h
  rw [if_pos hf0] at h
  unfold RS.over at h
  have er := (hb.endCell.endRow hn hb.line hb.col).flt
  split at h
  · rw [hf0] at h; cases h
  · obtain ⟨a1, a2, a3, _, a5⟩ := er l c e h; exact ⟨a1, a2, a3, a5⟩
  · obtain ⟨a1, a2, a3, _, a5⟩ := er l c e h; exact ⟨a1, a2, a3, a5⟩
  · obtain ⟨a1, a2, a3, _, a5⟩ := er l c e h; exact ⟨a1, a2, a3, a5⟩
  · have : some (s.bare.ml, s.bare.mc, 1) = some (l, c, e) := h
    cases this
    have h1 := hb.ml
    have h2 := hb.mc
    exact ⟨by omega, by omega, by unfold coded; omega, by decide⟩
  · have : some (s.bare.ml, s.bare.mc, 3) = some (l, c, e) := h
    cases this
    have h1 := hb.ml
    have h2 := hb.mc
    exact ⟨by omega, by omega, by unfold coded; omega, by decide⟩
end Go.Proofs.YtappphffbnkloaaGreatDoor.Sht
set_option linter.unusedVariables false
set_option linter.unusedSimpArgs false
namespace Go.Proofs.YtappphffbnkloaaGreatDoor.Sht
open Go Go.RowKit Go.Proofs.YtappphffbnkloaaGreatDoorW.PrintWords Go.Proofs.YtappphffbnkloaaGreatDoor.GS
/-- a place, taken apart: what stands ahead of its line, and the line's bytes -/
theorem posO_parts (u : List UInt8) : ∃ h r, u = h ++ r ∧ posO u = (1 + h.count 10, r.length) ∧ (∀ x ∈ r, x ≠ 10) ∧ (h = [] ∨ ∃ h', h = h' ++ [10]) := by
  have go : ∀ (n : Nat) (u : List UInt8), u.length = n → ∃ h r, u = h ++ r ∧ posO u = (1 + h.count 10, r.length) ∧ (∀ x ∈ r, x ≠ 10) ∧ (h = [] ∨ ∃ h', h = h' ++ [10]) := by
    intro n
    induction n with
    | zero => intro u hu; obtain rfl := List.eq_nil_of_length_eq_zero hu; exact ⟨[], [], rfl, rfl, by simp, .inl rfl⟩
    | succ n ih =>
      intro u hu
      have hne : u ≠ [] := by rintro rfl; simp at hu
      have e := List.dropLast_concat_getLast hne
      obtain ⟨h, r, h1, h2, h3, h4⟩ := ih u.dropLast (by rw [List.length_dropLast]; omega)
      generalize u.getLast hne = x at e
      generalize u.dropLast = y at *
      subst e
      rw [posO_snoc, h2]
      unfold onPos
      by_cases hx : x = 10
      · have hr0 : r.count 10 = 0 := List.count_eq_zero.2 fun q => h3 10 q rfl
        refine ⟨h ++ r ++ [x], [], by rw [h1]; simp, ?_, by simp, .inr ⟨h ++ r, by rw [hx]⟩⟩
        rw [if_pos hx, hx]
        simp only [List.count_append, hr0, List.count_cons, List.count_nil, List.length_nil]
        simp; omega
      · refine ⟨h, r ++ [x], by rw [h1]; simp, by rw [if_neg hx]; simp, fun y hy => ?_, h4⟩
        rcases List.mem_append.1 hy with q | q
        · exact h3 y q
        · rw [List.mem_singleton.1 q]; exact hx
  exact go u.length u rfl
theorem posO_bd (u : List UInt8) : (posO u).1 ≤ u.length + 1 ∧ (posO u).2 ≤ u.length := by
  obtain ⟨h, r, h1, h2, _, _⟩ := posO_parts u
  have := List.count_le_length (a := (10 : UInt8)) (l := h)
  rw [h2, h1]
  simp only [List.length_append]; omega
theorem offset_l (t : ByteArray) (h r v : List UInt8) (ht : L8 t = h ++ (r ++ v)) (hh : h = [] ∨ ∃ h', h = h' ++ [10]) (hsz : t.size ≤ 4611686018427387904) : ∀ (m k : Nat), k + m = h.length →
    Ev (fun q => larderlaw04_offset.l0 q t ((1 + (h.drop k).count 10 : Nat) : Int) (r.length : Int) (k : Int)) ((h.length + r.length : Nat) : Int) := by
  intro m
  have hl := L8_len t
  have hlen : (L8 t).length = h.length + (r.length + v.length) := by rw [ht]; simp
  induction m with
  | zero =>
    intro k hk
    obtain rfl : k = h.length := by omega
    rw [List.drop_length]
    refine Ev.succ (fun q => larderlaw04_offset.l0.eq_2 ..) (Ev.neg (by simp) (Ev.succ (fun q => larderlaw04_offset.j1.eq_2 ..) (Ev.neg (by simp) (Ev.pos (by simp) (Ev.neg (by omega) ?_)))))
    have e1 : wrap64 ((t.size : Int) - (h.length : Int)) = ((t.size : Int) - (h.length : Int)) := by unfold wrap64; omega
    have e2 : wrap64 ((h.length : Int) + (r.length : Int)) = ((h.length + r.length : Nat) : Int) := by unfold wrap64; omega
    rw [e1, e2]
    exact Ev.neg (by omega) Ev.here
  | succ m ih =>
    intro k hk
    have hlt : k < h.length := by omega
    have hpos : 0 < (h.drop k).count 10 := by
      rcases hh with rfl | ⟨h', rfl⟩
      · simp at hlt
      · rw [List.count_pos_iff]
        have hk' : k ≤ h'.length := by simp at hlt; omega
        rw [List.drop_append_of_le_length hk']
        simp
    have hd : h.drop k = h[k] :: h.drop (k + 1) := List.drop_eq_getElem_cons hlt
    have hk8 : k < (L8 t).length := by omega
    have hx : (L8 t)[k] = h[k] := by
      have : (h ++ (r ++ v))[k]? = some h[k] := by rw [List.getElem?_append_left hlt, List.getElem?_eq_getElem hlt]
      rw [← ht] at this
      exact (List.getElem?_eq_some_iff.1 this).2
    have hr := ih (k + 1) (by omega)
    have hcle := List.count_le_length (a := (10 : UInt8)) (l := h.drop k)
    rw [List.length_drop] at hcle
    refine Ev.succ (fun q => larderlaw04_offset.l0.eq_2 ..) (Ev.pos (by omega) (Ev.succ (fun q => larderlaw04_offset.j1.eq_2 ..) (Ev.pos (by simp; omega) (Ev.pos (by omega) (Ev.pos (by omega) ?_)))))
    rw [w1 _ (by omega)]
    by_cases h10 : h[k] = 10
    · refine Ev.pos ((bt_is t k hk8 10).2 (by rw [hx]; exact h10)) ?_
      have e : (h.drop k).count 10 = (h.drop (k + 1)).count 10 + 1 := by rw [hd, h10, List.count_cons_self]
      have e3 : wrap64 (((1 + (h.drop k).count 10 : Nat) : Int) - 1) = ((1 + (h.drop (k + 1)).count 10 : Nat) : Int) := by unfold wrap64; omega
      rw [e3]
      exact hr
    · refine Ev.neg (fun q => h10 (by rw [← hx]; exact (bt_is t k hk8 10).1 q)) ?_
      have e : (h.drop k).count 10 = (h.drop (k + 1)).count 10 := by rw [hd, List.count_cons_of_ne h10]
      rw [e]
      exact hr
theorem offset_ev (t : ByteArray) (u v : List UInt8) (l c : Nat) (ht : L8 t = u ++ v) (hp : (l, c) = posO u) (hsz : t.size ≤ 4611686018427387904) : ∃ k, larderlaw04_offset.f k t (l : Int) (c : Int) = some (u.length : Int) := by
  obtain ⟨h, r, h1, h2, h3, h4⟩ := posO_parts u
  rw [h2] at hp
  obtain ⟨rfl, rfl⟩ := Prod.mk.inj hp
  obtain ⟨K, hK⟩ := offset_l t h r v (by rw [ht, h1]; simp) h4 hsz h.length 0 (by omega)
  refine ⟨K, ?_⟩
  have := hK K (Nat.le_refl _)
  rw [List.drop_zero] at this
  rw [h1, List.length_append]
  exact this
end Go.Proofs.YtappphffbnkloaaGreatDoor.Sht
set_option linter.unusedVariables false
set_option linter.unusedSimpArgs false
namespace Go.Proofs.YtappphffbnkloaaGreatDoor.Itoa
open Go Go.RowKit Go.Sort Go.Lib
abbrev ec : UInt8 → Value := fun b => Value.int .u8 (b.toNat : Int)
theorem fam {w : World} {blk off : Nat} {d : Array UInt8} (hH : Holds ec w blk off d) : ∃ G : Nat → Int, (∀ t, t < d.size → w.cell? ⟨blk, off + t, none⟩ = some (.int .u8 (G t))) ∧ ∀ t, t < d.size → w.frozen? ⟨blk, off + t, none⟩ = false :=
  ⟨fun t => (d[t]!.toNat : Int), fun t ht => (hH t ht).1, fun t ht => (hH t ht).2⟩
set_option maxHeartbeats 12800000 in
set_option maxRecDepth 100000 in
theorem fmt2 (blk off cap u : Nat) (d : Array UInt8) (w : World) (hH : Holds ec w blk off d) (hd : d.size = 2) (hu : u < 1000000) :
    Calls Tryz.prog 110 #[.slice (some ⟨blk, off, none⟩) 2 cap, .int .u64 (u : Int)] w fun e w' =>
      e = .returned (.tuple #[]) ∧ ∃ n, w' = (putRow ec w blk off ((d.setIfInBounds 1 (sm (u % 100 * 2 + 1))).setIfInBounds 0 (sm (u % 100 * 2)))).drewN n := by
  have t9 := Tryz.underlying9
  have mixed : Tryz.prog.follows Departure.mixedOrders = true := by kernel_rfl
  obtain ⟨G, hc, hf⟩ := fam hH
  rw [hd] at hc hf
  have HH := Lib.hid hH
  clear hH
  go_enter Tryz.func110, Tryz.ntmps110
  go_name_bytes SM hSM
  have eSM : SM = Lib.smalls := by rw [← hSM]; decide +kernel
  subst eSM
  clear hSM
  go_wp2
  refine wp_loop_rounds 1 ?_
  rw [rounds_succ]
  go_wp2
  go_name_slot 16 x0 hx0
  have hxe0 : x0 = ((u % 100 * 2 : Nat) : Int) := by omega
  have hXa0 : ∀ w, (Instr.index 9 (.string Lib.smalls) (.int .u32 (x0 + 1))).run Tryz.prog w = .ok (.int .u8 ((sm (u % 100 * 2 + 1)).toNat : Int)) w := idx_smalls 9 t9 .u32 _ _ (by omega) (by omega)
  have hXb0 : ∀ w, (Instr.index 9 (.string Lib.smalls) (.int .u32 x0)).run Tryz.prog w = .ok (.int .u8 ((sm (u % 100 * 2)).toNat : Int)) w := idx_smalls 9 t9 .u32 _ _ (by omega) (by omega)
  have hlo0 : 0 ≤ x0 := by omega
  have hhi0 : x0 ≤ 198 := by omega
  clear hx0 hxe0
  go_region_o
  go_wp2
  go_end0
  have e := store2_world w blk off d 0 1 0 (sm (u % 100 * 2 + 1)) (sm (u % 100 * 2)) (by omega) (by omega)
  rw [putRow_self _ _ _ _ _ HH.out] at e
  exact ⟨rfl, 1, e⟩
-- printed below (gen_shtit.py)
/-- what lies in the row behind the call -/
def F3 (u : Nat) (d : Array UInt8) : Array UInt8 := ((d.setIfInBounds 2 (sm (u % 100 * 2 + 1))).setIfInBounds 1 (sm (u % 100 * 2))).setIfInBounds 0 (UInt8.ofNat (48 + u / 100))
set_option maxHeartbeats 12800000 in
set_option maxRecDepth 100000 in
theorem fmt3 (blk off cap u : Nat) (d : Array UInt8) (w : World) (hH : Holds ec w blk off d) (hd : d.size = 3) (hu : u < 1000000) :
    Calls Tryz.prog 110 #[.slice (some ⟨blk, off, none⟩) 3 cap, .int .u64 (u : Int)] w fun e w' =>
      e = .returned (.tuple #[]) ∧ ∃ n, w' = (putRow ec w blk off (F3 u d)).drewN n := by
  have t9 := Tryz.underlying9
  have mixed : Tryz.prog.follows Departure.mixedOrders = true := by kernel_rfl
  obtain ⟨G, hc, hf⟩ := fam hH
  rw [hd] at hc hf
  have HH := Lib.hid hH
  clear hH
  go_enter Tryz.func110, Tryz.ntmps110
  go_name_bytes SM hSM
  have eSM : SM = Lib.smalls := by rw [← hSM]; decide +kernel
  subst eSM
  clear hSM
  go_wp2
  refine wp_loop_rounds 1 ?_
  rw [rounds_succ]
  go_wp2
  go_name_slot 16 x0 hx0
  have hxe0 : x0 = ((u % 100 * 2 : Nat) : Int) := by omega
  have hXa0 : ∀ w, (Instr.index 9 (.string Lib.smalls) (.int .u32 (x0 + 1))).run Tryz.prog w = .ok (.int .u8 ((sm (u % 100 * 2 + 1)).toNat : Int)) w := idx_smalls 9 t9 .u32 _ _ (by omega) (by omega)
  have hXb0 : ∀ w, (Instr.index 9 (.string Lib.smalls) (.int .u32 x0)).run Tryz.prog w = .ok (.int .u8 ((sm (u % 100 * 2)).toNat : Int)) w := idx_smalls 9 t9 .u32 _ _ (by omega) (by omega)
  have hlo0 : 0 ≤ x0 := by omega
  have hhi0 : x0 ≤ 198 := by omega
  clear hx0 hxe0
  go_region_o
  go_wp2
  go_end0
  have e := store21_world w blk off d 0 2 1 (sm (u % 100 * 2 + 1)) (sm (u % 100 * 2)) ((48 + (u : Int) / 100) % 256) (u / 100) (by omega) (by omega) (by omega)
  rw [putRow_self _ _ _ _ _ HH.out] at e
  exact ⟨rfl, 1, e⟩
/-- what lies in the row behind the call -/
def F4 (u : Nat) (d : Array UInt8) : Array UInt8 := ((((d).setIfInBounds 3 (sm (u % 100 * 2 + 1))).setIfInBounds 2 (sm (u % 100 * 2))).setIfInBounds 1 (sm (u % 10000 / 100 * 2 + 1))).setIfInBounds 0 (sm (u % 10000 / 100 * 2))
set_option maxHeartbeats 12800000 in
set_option maxRecDepth 100000 in
theorem fmt4 (blk off cap u : Nat) (d : Array UInt8) (w : World) (hH : Holds ec w blk off d) (hd : d.size = 4) (hu : u < 1000000) :
    Calls Tryz.prog 110 #[.slice (some ⟨blk, off, none⟩) 4 cap, .int .u64 (u : Int)] w fun e w' =>
      e = .returned (.tuple #[]) ∧ ∃ n, w' = (putRow ec w blk off (F4 u d)).drewN n := by
  have t9 := Tryz.underlying9
  have mixed : Tryz.prog.follows Departure.mixedOrders = true := by kernel_rfl
  obtain ⟨G, hc, hf⟩ := fam hH
  rw [hd] at hc hf
  have HH := Lib.hid hH
  clear hH
  go_enter Tryz.func110, Tryz.ntmps110
  go_name_bytes SM hSM
  have eSM : SM = Lib.smalls := by rw [← hSM]; decide +kernel
  subst eSM
  clear hSM
  go_wp2
  refine wp_loop_rounds 1 ?_
  rw [rounds_succ]
  go_wp2
  go_name_slot 15 x0 hx0
  have hxe0 : x0 = ((u % 100 * 2 : Nat) : Int) := by omega
  have hXa0 : ∀ w, (Instr.index 9 (.string Lib.smalls) (.int .u32 (x0 + 1))).run Tryz.prog w = .ok (.int .u8 ((sm (u % 100 * 2 + 1)).toNat : Int)) w := idx_smalls 9 t9 .u32 _ _ (by omega) (by omega)
  have hXb0 : ∀ w, (Instr.index 9 (.string Lib.smalls) (.int .u32 x0)).run Tryz.prog w = .ok (.int .u8 ((sm (u % 100 * 2)).toNat : Int)) w := idx_smalls 9 t9 .u32 _ _ (by omega) (by omega)
  have hlo0 : 0 ≤ x0 := by omega
  have hhi0 : x0 ≤ 198 := by omega
  clear hx0 hxe0
  go_region_o
  go_wp2
  go_name_world W1 hW1
  have hw1 : W1 = (putRow ec w blk off (((d).setIfInBounds 3 (sm (u % 100 * 2 + 1))).setIfInBounds 2 (sm (u % 100 * 2)))).drewN 1 := by
    rw [← hW1]
    have e := store2_world w blk off d 0 3 2 (sm (u % 100 * 2 + 1)) (sm (u % 100 * 2)) (by omega) (by omega)
    rw [putRow_self _ _ _ _ _ HH.out] at e
    exact e
  clear hW1
  have hs1 : (((d).setIfInBounds 3 (sm (u % 100 * 2 + 1))).setIfInBounds 2 (sm (u % 100 * 2))).size = d.size := by simp
  have hH1 : Holds ec W1 blk off (((d).setIfInBounds 3 (sm (u % 100 * 2 + 1))).setIfInBounds 2 (sm (u % 100 * 2))) := by rw [hw1]; exact holds_putRow _ w blk off d _ HH.out hs1
  obtain ⟨G1, hc1, hf1⟩ := fam hH1
  rw [hs1, hd] at hc1 hf1
  have AW1 := Lib.hid hw1
  clear hw1 hH1 hc hf
  go_name_slot 14 x1 hx1
  have hxe1 : x1 = ((u % 10000 / 100 * 2 : Nat) : Int) := by omega
  have hXa1 : ∀ w, (Instr.index 9 (.string Lib.smalls) (.int .u32 (x1 + 1))).run Tryz.prog w = .ok (.int .u8 ((sm (u % 10000 / 100 * 2 + 1)).toNat : Int)) w := idx_smalls 9 t9 .u32 _ _ (by omega) (by omega)
  have hXb1 : ∀ w, (Instr.index 9 (.string Lib.smalls) (.int .u32 x1)).run Tryz.prog w = .ok (.int .u8 ((sm (u % 10000 / 100 * 2)).toNat : Int)) w := idx_smalls 9 t9 .u32 _ _ (by omega) (by omega)
  have hlo1 : 0 ≤ x1 := by omega
  have hhi1 : x1 ≤ 198 := by omega
  clear hx1 hxe1
  go_region_o
  go_wp2
  go_end0
  have e := store2_world w blk off (((d).setIfInBounds 3 (sm (u % 100 * 2 + 1))).setIfInBounds 2 (sm (u % 100 * 2))) 1 1 0 (sm (u % 10000 / 100 * 2 + 1)) (sm (u % 10000 / 100 * 2)) (by simp; omega) (by simp; omega)
  rw [← AW1.out] at e
  exact ⟨rfl, 2, e⟩
/-- what lies in the row behind the call -/
def F5 (u : Nat) (d : Array UInt8) : Array UInt8 := (((((d).setIfInBounds 4 (sm (u % 100 * 2 + 1))).setIfInBounds 3 (sm (u % 100 * 2))).setIfInBounds 2 (sm (u % 10000 / 100 * 2 + 1))).setIfInBounds 1 (sm (u % 10000 / 100 * 2))).setIfInBounds 0 (UInt8.ofNat (48 + u / 10000))
set_option maxHeartbeats 12800000 in
set_option maxRecDepth 100000 in
theorem fmt5 (blk off cap u : Nat) (d : Array UInt8) (w : World) (hH : Holds ec w blk off d) (hd : d.size = 5) (hu : u < 1000000) :
    Calls Tryz.prog 110 #[.slice (some ⟨blk, off, none⟩) 5 cap, .int .u64 (u : Int)] w fun e w' =>
      e = .returned (.tuple #[]) ∧ ∃ n, w' = (putRow ec w blk off (F5 u d)).drewN n := by
  have t9 := Tryz.underlying9
  have mixed : Tryz.prog.follows Departure.mixedOrders = true := by kernel_rfl
  obtain ⟨G, hc, hf⟩ := fam hH
  rw [hd] at hc hf
  have HH := Lib.hid hH
  clear hH
  go_enter Tryz.func110, Tryz.ntmps110
  go_name_bytes SM hSM
  have eSM : SM = Lib.smalls := by rw [← hSM]; decide +kernel
  subst eSM
  clear hSM
  go_wp2
  refine wp_loop_rounds 1 ?_
  rw [rounds_succ]
  go_wp2
  go_name_slot 15 x0 hx0
  have hxe0 : x0 = ((u % 100 * 2 : Nat) : Int) := by omega
  have hXa0 : ∀ w, (Instr.index 9 (.string Lib.smalls) (.int .u32 (x0 + 1))).run Tryz.prog w = .ok (.int .u8 ((sm (u % 100 * 2 + 1)).toNat : Int)) w := idx_smalls 9 t9 .u32 _ _ (by omega) (by omega)
  have hXb0 : ∀ w, (Instr.index 9 (.string Lib.smalls) (.int .u32 x0)).run Tryz.prog w = .ok (.int .u8 ((sm (u % 100 * 2)).toNat : Int)) w := idx_smalls 9 t9 .u32 _ _ (by omega) (by omega)
  have hlo0 : 0 ≤ x0 := by omega
  have hhi0 : x0 ≤ 198 := by omega
  clear hx0 hxe0
  go_region_o
  go_wp2
  go_name_world W1 hW1
  have hw1 : W1 = (putRow ec w blk off (((d).setIfInBounds 4 (sm (u % 100 * 2 + 1))).setIfInBounds 3 (sm (u % 100 * 2)))).drewN 1 := by
    rw [← hW1]
    have e := store2_world w blk off d 0 4 3 (sm (u % 100 * 2 + 1)) (sm (u % 100 * 2)) (by omega) (by omega)
    rw [putRow_self _ _ _ _ _ HH.out] at e
    exact e
  clear hW1
  have hs1 : (((d).setIfInBounds 4 (sm (u % 100 * 2 + 1))).setIfInBounds 3 (sm (u % 100 * 2))).size = d.size := by simp
  have hH1 : Holds ec W1 blk off (((d).setIfInBounds 4 (sm (u % 100 * 2 + 1))).setIfInBounds 3 (sm (u % 100 * 2))) := by rw [hw1]; exact holds_putRow _ w blk off d _ HH.out hs1
  obtain ⟨G1, hc1, hf1⟩ := fam hH1
  rw [hs1, hd] at hc1 hf1
  have AW1 := Lib.hid hw1
  clear hw1 hH1 hc hf
  go_name_slot 14 x1 hx1
  have hxe1 : x1 = ((u % 10000 / 100 * 2 : Nat) : Int) := by omega
  have hXa1 : ∀ w, (Instr.index 9 (.string Lib.smalls) (.int .u32 (x1 + 1))).run Tryz.prog w = .ok (.int .u8 ((sm (u % 10000 / 100 * 2 + 1)).toNat : Int)) w := idx_smalls 9 t9 .u32 _ _ (by omega) (by omega)
  have hXb1 : ∀ w, (Instr.index 9 (.string Lib.smalls) (.int .u32 x1)).run Tryz.prog w = .ok (.int .u8 ((sm (u % 10000 / 100 * 2)).toNat : Int)) w := idx_smalls 9 t9 .u32 _ _ (by omega) (by omega)
  have hlo1 : 0 ≤ x1 := by omega
  have hhi1 : x1 ≤ 198 := by omega
  clear hx1 hxe1
  go_region_o
  go_wp2
  go_end0
  have e := store21_world w blk off (((d).setIfInBounds 4 (sm (u % 100 * 2 + 1))).setIfInBounds 3 (sm (u % 100 * 2))) 1 2 1 (sm (u % 10000 / 100 * 2 + 1)) (sm (u % 10000 / 100 * 2)) (48 + (u : Int) / 10000) (u / 10000) (by omega) (by simp; omega) (by simp; omega)
  rw [← AW1.out] at e
  exact ⟨rfl, 2, e⟩
/-- what lies in the row behind the call -/
def F6 (u : Nat) (d : Array UInt8) : Array UInt8 := ((((((d).setIfInBounds 5 (sm (u % 100 * 2 + 1))).setIfInBounds 4 (sm (u % 100 * 2))).setIfInBounds 3 (sm (u % 10000 / 100 * 2 + 1))).setIfInBounds 2 (sm (u % 10000 / 100 * 2))).setIfInBounds 1 (sm (u / 10000 % 100 * 2 + 1))).setIfInBounds 0 (sm (u / 10000 % 100 * 2))
set_option maxHeartbeats 12800000 in
set_option maxRecDepth 100000 in
theorem fmt6 (blk off cap u : Nat) (d : Array UInt8) (w : World) (hH : Holds ec w blk off d) (hd : d.size = 6) (hu : u < 1000000) :
    Calls Tryz.prog 110 #[.slice (some ⟨blk, off, none⟩) 6 cap, .int .u64 (u : Int)] w fun e w' =>
      e = .returned (.tuple #[]) ∧ ∃ n, w' = (putRow ec w blk off (F6 u d)).drewN n := by
  have t9 := Tryz.underlying9
  have mixed : Tryz.prog.follows Departure.mixedOrders = true := by kernel_rfl
  obtain ⟨G, hc, hf⟩ := fam hH
  rw [hd] at hc hf
  have HH := Lib.hid hH
  clear hH
  go_enter Tryz.func110, Tryz.ntmps110
  go_name_bytes SM hSM
  have eSM : SM = Lib.smalls := by rw [← hSM]; decide +kernel
  subst eSM
  clear hSM
  go_wp2
  refine wp_loop_rounds 1 ?_
  rw [rounds_succ]
  go_wp2
  go_name_slot 15 x0 hx0
  have hxe0 : x0 = ((u % 100 * 2 : Nat) : Int) := by omega
  have hXa0 : ∀ w, (Instr.index 9 (.string Lib.smalls) (.int .u32 (x0 + 1))).run Tryz.prog w = .ok (.int .u8 ((sm (u % 100 * 2 + 1)).toNat : Int)) w := idx_smalls 9 t9 .u32 _ _ (by omega) (by omega)
  have hXb0 : ∀ w, (Instr.index 9 (.string Lib.smalls) (.int .u32 x0)).run Tryz.prog w = .ok (.int .u8 ((sm (u % 100 * 2)).toNat : Int)) w := idx_smalls 9 t9 .u32 _ _ (by omega) (by omega)
  have hlo0 : 0 ≤ x0 := by omega
  have hhi0 : x0 ≤ 198 := by omega
  clear hx0 hxe0
  go_region_o
  go_wp2
  go_name_world W1 hW1
  have hw1 : W1 = (putRow ec w blk off (((d).setIfInBounds 5 (sm (u % 100 * 2 + 1))).setIfInBounds 4 (sm (u % 100 * 2)))).drewN 1 := by
    rw [← hW1]
    have e := store2_world w blk off d 0 5 4 (sm (u % 100 * 2 + 1)) (sm (u % 100 * 2)) (by omega) (by omega)
    rw [putRow_self _ _ _ _ _ HH.out] at e
    exact e
  clear hW1
  have hs1 : (((d).setIfInBounds 5 (sm (u % 100 * 2 + 1))).setIfInBounds 4 (sm (u % 100 * 2))).size = d.size := by simp
  have hH1 : Holds ec W1 blk off (((d).setIfInBounds 5 (sm (u % 100 * 2 + 1))).setIfInBounds 4 (sm (u % 100 * 2))) := by rw [hw1]; exact holds_putRow _ w blk off d _ HH.out hs1
  obtain ⟨G1, hc1, hf1⟩ := fam hH1
  rw [hs1, hd] at hc1 hf1
  have AW1 := Lib.hid hw1
  clear hw1 hH1 hc hf
  go_name_slot 14 x1 hx1
  have hxe1 : x1 = ((u % 10000 / 100 * 2 : Nat) : Int) := by omega
  have hXa1 : ∀ w, (Instr.index 9 (.string Lib.smalls) (.int .u32 (x1 + 1))).run Tryz.prog w = .ok (.int .u8 ((sm (u % 10000 / 100 * 2 + 1)).toNat : Int)) w := idx_smalls 9 t9 .u32 _ _ (by omega) (by omega)
  have hXb1 : ∀ w, (Instr.index 9 (.string Lib.smalls) (.int .u32 x1)).run Tryz.prog w = .ok (.int .u8 ((sm (u % 10000 / 100 * 2)).toNat : Int)) w := idx_smalls 9 t9 .u32 _ _ (by omega) (by omega)
  have hlo1 : 0 ≤ x1 := by omega
  have hhi1 : x1 ≤ 198 := by omega
  clear hx1 hxe1
  go_region_o
  go_wp2
  go_name_world W2 hW2
  have hw2 : W2 = (putRow ec w blk off (((((d).setIfInBounds 5 (sm (u % 100 * 2 + 1))).setIfInBounds 4 (sm (u % 100 * 2))).setIfInBounds 3 (sm (u % 10000 / 100 * 2 + 1))).setIfInBounds 2 (sm (u % 10000 / 100 * 2)))).drewN 2 := by
    rw [← hW2]
    have e := store2_world w blk off (((d).setIfInBounds 5 (sm (u % 100 * 2 + 1))).setIfInBounds 4 (sm (u % 100 * 2))) 1 3 2 (sm (u % 10000 / 100 * 2 + 1)) (sm (u % 10000 / 100 * 2)) (by simp; omega) (by simp; omega)
    rw [← AW1.out] at e
    exact e
  clear hW2
  have hs2 : (((((d).setIfInBounds 5 (sm (u % 100 * 2 + 1))).setIfInBounds 4 (sm (u % 100 * 2))).setIfInBounds 3 (sm (u % 10000 / 100 * 2 + 1))).setIfInBounds 2 (sm (u % 10000 / 100 * 2))).size = d.size := by simp
  have hH2 : Holds ec W2 blk off (((((d).setIfInBounds 5 (sm (u % 100 * 2 + 1))).setIfInBounds 4 (sm (u % 100 * 2))).setIfInBounds 3 (sm (u % 10000 / 100 * 2 + 1))).setIfInBounds 2 (sm (u % 10000 / 100 * 2))) := by rw [hw2]; exact holds_putRow _ w blk off d _ HH.out hs2
  obtain ⟨G2, hc2, hf2⟩ := fam hH2
  rw [hs2, hd] at hc2 hf2
  have AW2 := Lib.hid hw2
  clear hw2 hH2 hc1 hf1
  go_name_slot 16 x2 hx2
  have hxe2 : x2 = ((u / 10000 % 100 * 2 : Nat) : Int) := by omega
  have hXa2 : ∀ w, (Instr.index 9 (.string Lib.smalls) (.int .u32 (x2 + 1))).run Tryz.prog w = .ok (.int .u8 ((sm (u / 10000 % 100 * 2 + 1)).toNat : Int)) w := idx_smalls 9 t9 .u32 _ _ (by omega) (by omega)
  have hXb2 : ∀ w, (Instr.index 9 (.string Lib.smalls) (.int .u32 x2)).run Tryz.prog w = .ok (.int .u8 ((sm (u / 10000 % 100 * 2)).toNat : Int)) w := idx_smalls 9 t9 .u32 _ _ (by omega) (by omega)
  have hlo2 : 0 ≤ x2 := by omega
  have hhi2 : x2 ≤ 198 := by omega
  clear hx2 hxe2
  go_region_o
  go_wp2
  go_end0
  have e := store2_world w blk off (((((d).setIfInBounds 5 (sm (u % 100 * 2 + 1))).setIfInBounds 4 (sm (u % 100 * 2))).setIfInBounds 3 (sm (u % 10000 / 100 * 2 + 1))).setIfInBounds 2 (sm (u % 10000 / 100 * 2))) 2 1 0 (sm (u / 10000 % 100 * 2 + 1)) (sm (u / 10000 % 100 * 2)) (by simp; omega) (by simp; omega)
  rw [← AW2.out] at e
  exact ⟨rfl, 3, e⟩
end Go.Proofs.YtappphffbnkloaaGreatDoor.Itoa
set_option linter.unusedVariables false
set_option linter.unusedSimpArgs false
namespace Go.Proofs.YtappphffbnkloaaGreatDoor.Itoa
open Go Go.RowKit Go.Sort Go.Lib
/-- the table, whatever it holds -/
def Tb (W : World) (tb : Nat → Int) : Prop := ∀ q, q < 20 → W.cell? ⟨21, q, none⟩ = some (.int .u64 (tb q))
theorem Tb.below {W W' : World} {tb : Nat → Int} (h : Tb W tb) (k : Below W.heap.size W W') : Tb W' tb := fun q hq => (k.cell (p := ⟨21, q, none⟩) (World.block_lt_of_cell? W _ (h q hq))).trans (h q hq)
/-- how many bytes are laid -/
def nd (tb : Nat → Int) (u : Nat) : Nat := l10 (Lib.bitLen u) + (if tb (l10 (Lib.bitLen u)) ≤ (u : Int) then 1 else 0)
theorem l10_le (u : Nat) (h : u < 500000) : l10 (Lib.bitLen u) ≤ 5 := by
  have := Lib.bitLen_le u 19 (by decide) (by omega)
  unfold l10
  omega
theorem l10_ge (u : Nat) (h0 : 100 ≤ u) (h : u < 500000) : 2 ≤ l10 (Lib.bitLen u) := by
  have h1 := (numDigits_eq u (by omega) (by omega)).1
  have h2 : nDigits u = nDigits (u / 10 / 10) + 1 + 1 := by rw [nDigits_big (by omega), nDigits_big (by omega)]
  have h3 := nDigits_pos (u / 10 / 10)
  split at h1 <;> omega
theorem nd_bd (tb : Nat → Int) (u : Nat) (h0 : 100 ≤ u) (h : u < 500000) : 2 ≤ nd tb u ∧ nd tb u ≤ 6 := by
  have h1 := l10_le u h
  have h2 := l10_ge u h0 h
  unfold nd
  split <;> omega
set_option maxHeartbeats 4000000 in
set_option maxRecDepth 100000 in
theorem num_any (tb : Nat → Int) (u : Nat) (h0 : 100 ≤ u) (h : u < 500000) (w : World) (ht : Tb w tb) :
    Calls Tryz.prog 109 #[.int .u64 (u : Int)] w fun e w' => e = .returned (.int .i64 (nd tb u : Int)) ∧ w' = w := by
  have h5 := l10_le u h
  have hcell := ht (l10 (Lib.bitLen u)) (by omega)
  have hto : ((u : Int)).toNat = u := by omega
  have hL : Lib.bitLen u ≤ 64 := Lib.bitLen_le u 64 (Nat.le_refl _) (by omega)
  have HN : Hid ((nd tb u : Int) = (l10 (Lib.bitLen u) : Int) + (if tb (l10 (Lib.bitLen u)) ≤ (u : Int) then 1 else 0)) := Lib.hid (by unfold nd; split <;> simp)
  generalize hq : l10 (Lib.bitLen u) = q at h5 hcell HN
  generalize hT : tb q = T at hcell HN
  have h20 : q < 20 := by omega
  clear ht
  go_enter Tryz.func109, Tryz.ntmps109
  go_wp2_with (first
    | (go_at_call 124; (with_reducible refine (Tryz.bits_Len64 _ _ (by omega) (by omega)).mono ?_); rintro e w' ⟨rfl, rfl⟩)
    | (go_at_call 123; (with_reducible refine (Tryz.internal_strconv_log10Pow2 _ (by first | exact hL | (rw [hto]; exact hL)) _).mono ?_); rintro e w' ⟨rfl, rfl⟩)
    | (go_at_call 125; (with_reducible refine (Tryz.internal_strconv_bool2_int _ _).mono ?_); rintro e w' ⟨rfl, rfl⟩))
  all_goals go_ret
  all_goals (
    refine ⟨?_, rfl⟩
    have hn := HN.out
    rw [hn]
    split <;> first | rfl | (exfalso; omega) | simp)
/-- the row behind formatBase10 -/
def FF (n u : Nat) (d : Array UInt8) : Array UInt8 :=
  if n = 2 then (d.setIfInBounds 1 (sm (u % 100 * 2 + 1))).setIfInBounds 0 (sm (u % 100 * 2)) else if n = 3 then F3 u d else if n = 4 then F4 u d else if n = 5 then F5 u d else F6 u d
theorem FF_size (n u : Nat) (d : Array UInt8) : (FF n u d).size = d.size := by
  unfold FF F3 F4 F5 F6
  split <;> (try split) <;> (try split) <;> (try split) <;> simp
theorem fmt_any (n : Nat) (h1 : 2 ≤ n) (h2 : n ≤ 6) (blk off cap u : Nat) (d : Array UInt8) (w : World) (hH : Holds ec w blk off d) (hd : d.size = n) (hu : u < 1000000) :
    Calls Tryz.prog 110 #[.slice (some ⟨blk, off, none⟩) n cap, .int .u64 (u : Int)] w fun e w' =>
      e = .returned (.tuple #[]) ∧ ∃ k, w' = (putRow ec w blk off (FF n u d)).drewN k := by
  rcases (show n = 2 ∨ n = 3 ∨ n = 4 ∨ n = 5 ∨ n = 6 by omega) with rfl | rfl | rfl | rfl | rfl
  · have e : FF 2 u d = (d.setIfInBounds 1 (sm (u % 100 * 2 + 1))).setIfInBounds 0 (sm (u % 100 * 2)) := by unfold FF; rw [if_pos rfl]
    rw [e]; exact fmt2 blk off cap u d w hH hd hu
  · have e : FF 3 u d = F3 u d := by unfold FF; rw [if_neg (by decide), if_pos rfl]
    rw [e]; exact fmt3 blk off cap u d w hH hd hu
  · have e : FF 4 u d = F4 u d := by unfold FF; rw [if_neg (by decide), if_neg (by decide), if_pos rfl]
    rw [e]; exact fmt4 blk off cap u d w hH hd hu
  · have e : FF 5 u d = F5 u d := by unfold FF; rw [if_neg (by decide), if_neg (by decide), if_neg (by decide), if_pos rfl]
    rw [e]; exact fmt5 blk off cap u d w hH hd hu
  · have e : FF 6 u d = F6 u d := by unfold FF; rw [if_neg (by decide), if_neg (by decide), if_neg (by decide), if_neg (by decide)]
    rw [e]; exact fmt6 blk off cap u d w hH hd hu
/-- the text of a number -/
def txt (tb : Nat → Int) (u : Nat) : ByteArray := if u < 100 then ⟨(Lib.decDigits u).toArray⟩ else ⟨FF (nd tb u) u (Array.replicate (nd tb u) 0)⟩
theorem txt_size (tb : Nat → Int) (u : Nat) (h : u < 500000) : (txt tb u).size ≤ 100 := by
  unfold txt
  by_cases h1 : u < 100
  · rw [if_pos h1]
    have := nDigits_le20 u (by omega)
    show (Lib.decDigits u).toArray.size ≤ 100
    rw [List.size_toArray, decDigits_length]
    omega
  · rw [if_neg h1]
    have := nd_bd tb u (by omega) h
    show (FF (nd tb u) u (Array.replicate (nd tb u) 0)).size ≤ 100
    rw [FF_size, Array.size_replicate]
    omega
set_option maxHeartbeats 8000000 in
set_option maxRecDepth 100000 in
theorem format_any (tb : Nat → Int) (u : Nat) (h0 : 100 ≤ u) (h : u < 500000) (w : World) (ht : Tb w tb) :
    Calls Tryz.prog 97 #[.int .i64 (u : Int), .int .i64 10] w fun e w' => e = .returned (.string (txt tb u)) ∧ Below w.heap.size w w' := by
  obtain ⟨b1, b2⟩ := nd_bd tb u h0 h
  have e0 : txt tb u = ⟨FF (nd tb u) u (Array.replicate (nd tb u) 0)⟩ := by unfold txt; rw [if_neg (by omega)]
  rw [e0]
  have HNm := Lib.hid (fun W (hW : Tb W tb) => num_any tb u h0 h W hW)
  generalize hm : nd tb u = m at b1 b2 HNm
  have hal : Tryz.prog.arrayLen 180 = 24 := by simp [Program.arrayLen, Tryz.underlying180]
  have hsl1 : ∀ W, (Instr.sliceAt 180 (.pointer (some ⟨w.heap.size, 0, none⟩)) (some (.int .i64 1)) (some (.int .i64 (1 + (m : Int)))) none).run Tryz.prog W = .ok (.slice (some ⟨w.heap.size, 1, none⟩) m 23) W := fun W => by
    rw [run_sliceAt_array_lh W 180 ⟨w.heap.size, 0, none⟩ (by simp [Program.arrayLen, Program.elem, Tryz.underlying180]) .i64 .i64 1 (1 + (m : Int)) (by omega) (by omega) (by rw [hal]; omega)]
    go_simp
    omega
  have hH0 := Lib.holds_zero w 180 m (by omega)
  have HFm := Lib.hid (fmt_any m b1 b2 w.heap.size 1 23 u (Array.replicate m 0) (w.alloc (.cells Lib.zeros24 180)) hH0 (by simp) (by omega))
  have HTb := Lib.hid (show Tb (w.alloc (.cells Lib.zeros24 180)) tb from ht.below ((Below.refl _ _).alloc (Nat.le_refl _) _))
  have HH0 := Lib.hid hH0
  have hb3 : m ≤ 23 := by omega
  clear hH0 hal ht e0 hm
  go_enter Tryz.func97, Tryz.ntmps97
  go_wp2_with (go_at_call 109; refine (HNm.out _ HTb.out).mono ?_; rintro e w' ⟨rfl, rfl⟩)
  go_at_call 110
  refine HFm.out.mono ?_
  rintro e w' ⟨rfl, k, rfl⟩
  have hcv : (convert 37 9 (.slice (some ⟨w.heap.size, 1, none⟩) m 23)).run Tryz.prog ((putRow ec (w.alloc (.cells Lib.zeros24 180)) w.heap.size 1 (FF m u (Array.replicate m 0))).drewN k) = .ok (.string ⟨FF m u (Array.replicate m 0)⟩) ((putRow ec (w.alloc (.cells Lib.zeros24 180)) w.heap.size 1 (FF m u (Array.replicate m 0))).drewN k) := by
    have hsz : (FF m u (Array.replicate m 0)).size = m := by rw [FF_size, Array.size_replicate]
    have h := run_convert_bytes_back (P := Tryz.prog) ((putRow ec (w.alloc (.cells Lib.zeros24 180)) w.heap.size 1 (FF m u (Array.replicate m 0))).drewN k) 37 9 5 ⟨w.heap.size, 1, none⟩ 23 (FF m u (Array.replicate m 0)).toList Tryz.underlying37 Tryz.underlying5 Tryz.underlying9 (fun j hj => by
      rw [Lib.add_plain, World.cell?_drewN]
      have hj' : j < (FF m u (Array.replicate m 0)).size := by simpa using hj
      have := cell?_putRow ec (w.alloc (.cells Lib.zeros24 180)) w.heap.size 1 _ (FF m u (Array.replicate m 0)) HH0.out (by rw [FF_size]) j hj'
      rw [this, getElem!_pos _ j hj']
      simp)
    rw [Array.length_toList, hsz] at h
    rw [h]
  go_wp2
  go_ret
  obtain ⟨os, eo⟩ := Lib.fin_pos w (.cells Lib.zeros24 180) (FF m u (Array.replicate m 0)) k
  exact ⟨rfl, by rw [eo]; exact Lib.below_grow _ _ (Nat.le_refl _) k os⟩
set_option maxHeartbeats 4000000 in
theorem itoa_any (tb : Nat → Int) (u : Nat) (h : u < 500000) (w : World) (ht : Tb w tb) :
    Calls Tryz.prog 68 #[.int .i64 (u : Int)] w fun e w' => e = .returned (.string (txt tb u)) ∧ Below w.heap.size w w' := by
  by_cases h0 : u < 100
  · have e0 : txt tb u = ⟨(Lib.decDigits u).toArray⟩ := by unfold txt; rw [if_pos h0]
    rw [e0]
    exact (Tryz.strconv_Itoa_small u h0 w).mono fun e w' q => ⟨q.1, by rw [q.2]; exact Below.refl _ _⟩
  · have HF := Lib.hid (format_any tb u (by omega) h w ht)
    clear ht
    have HI : Calls Tryz.prog 85 #[.int .i64 (u : Int)] w fun e w' => e = .returned (.string (txt tb u)) ∧ Below w.heap.size w w' := by
      go_enter Tryz.func85, Tryz.ntmps85
      go_wp2_with (go_at_call 97; (with_reducible refine HF.out.mono ?_); rintro e w1 ⟨rfl, hb⟩)
      go_ret
      exact ⟨rfl, hb⟩
    have HJ := Lib.hid HI
    clear HI
    go_enter Tryz.func68, Tryz.ntmps68
    go_wp2_with (go_at_call 85; (with_reducible refine HJ.out.mono ?_); rintro e w1 ⟨rfl, hb⟩)
    go_ret
    exact ⟨rfl, hb⟩
end Go.Proofs.YtappphffbnkloaaGreatDoor.Itoa
set_option linter.unusedVariables false
set_option linter.unusedSimpArgs false
namespace Go.Proofs.YtappphffbnkloaaGreatDoor.Sht
open Go Go.RowKit Go.Joins
variable {A : Nat → Addr} {w wr : World} {b : Nat} {s : RS}
theorem it_any {W : World} {tb : Nat → Int} (h : Itoa.Tb W tb) : IT W (Itoa.txt tb) 499999 :=
  ⟨fun w' hb n hn => Itoa.itoa_any tb n (by omega) w' (h.below hb), fun n hn => Itoa.txt_size tb n (by omega)⟩
theorem methodFault (v : Value) (w : World) : (Go.method 345 65 v "Error").run Tryz.prog w = .ok (28, v) w := by kernel_rfl
theorem told_none {W0 W : World} {v : Value} (h : ToldAt W0 W b v []) : ∃ x c, v = .slice x 0 c := by
  obtain ⟨lv, h1, _⟩ := h
  rcases ownsRow_forms h1 with ⟨rfl, _⟩ | ⟨g, cap, rfl⟩
  · exact ⟨_, _, rfl⟩
  · exact ⟨_, _, rfl⟩
theorem rows_none (h : s.rows = []) : { s with rows := [] } = s := by cases s; simp_all
/-- a fault's cells -/
def Flt (A : Nat → Addr) (W : World) (g l c e : Nat) : Prop := W.heap[g]? = some (.cells #[I l, I c, errV A e] 70 (0, 0))
theorem stuck_feed (hF : SF w A) (hE : ET w) (hR : R A w wr b s) (hd : s.fault = some (0, 0, 9)) (m : ByteArray) :
    Calls Tryz.prog 15 #[PT b, .slice (some ⟨wr.heap.size, 0, none⟩) m.size (grownCap wr m.size 0 5)] (Lib.bytesWorld wr 5 m) fun ev w' =>
      ∃ g, ev = .returned (.tuple #[.slice none 0 0, .iface 65 (PT g)]) ∧ Flt A w' g 0 0 9 ∧ R A w w' b s := by
  have h := hR.below (below_bytes wr m)
  refine (feed_done hF hE h hd _ _ _).mono ?_
  rintro ev w' ⟨ve, rfl, ⟨_, g, _, rfl, hg⟩, hb⟩
  exact ⟨g, rfl, hg, h.below hb⟩
theorem stuck_close (hF : SF w A) (hE : ET w) (hR : R A w wr b s) {l c e : Nat} (hd : s.fault = some (l, c, e)) (hr : s.rows = []) :
    Calls Tryz.prog 9 #[PT b] wr fun ev w' =>
      ∃ g x cp, ev = .returned (.tuple #[.slice x 0 cp, .iface 65 (PT g)]) ∧ Flt A w' g l c e ∧ Fr b wr w' ∧ ∃ sd, R A w w' b sd ∧ sd.fault = some (0, 0, 9) ∧ sd.rows = [] := by
  refine (close_r hF hE hR (fun e => by rw [hd] at e; cases e)).mono ?_
  have hfin : s.fin = s := by unfold RS.fin; rw [if_neg (by rw [hd]; simp)]
  rw [hfin]
  rintro ev w' ⟨vl, ve, rfl, h1, h2, h3, h4⟩
  rw [hr] at h2
  obtain ⟨x, cp, rfl⟩ := told_none h2
  rw [hd] at h3
  obtain ⟨⟨_, g, _, rfl, hg⟩, _⟩ := h3
  exact ⟨g, x, cp, rfl, hg, h4, _, h1, rfl, rfl⟩
theorem open_close (hF : SF w A) (hE : ET w) (hR : R A w wr b s) (hL : s.Live) :
    Calls Tryz.prog 9 #[PT b] wr fun ev w' => ∃ vl ve, ev = .returned (.tuple #[vl, ve]) ∧ ∃ sd, R A w w' b sd ∧ sd.fault = some (0, 0, 9) ∧ sd.rows = [] :=
  (close_r hF hE hR hL).mono fun ev w' ⟨vl, ve, h0, h1, _⟩ => ⟨vl, ve, h0, _, h1, rfl, rfl⟩
theorem again_feed (hF : SF w A) (hE : ET w) (hR : R A w wr b s) {l c e : Nat} (hd : s.fault = some (l, c, e)) (h9 : e ≠ 9) (hr : s.rows = []) (m : ByteArray) (hm : m.size ≤ 4611686018427387904) :
    Calls Tryz.prog 15 #[PT b, .slice (some ⟨wr.heap.size, 0, none⟩) m.size (grownCap wr m.size 0 5)] (Lib.bytesWorld wr 5 m) fun ev w' =>
      ∃ g x cp, ev = .returned (.tuple #[.slice x 0 cp, .iface 65 (PT g)]) ∧ Flt A w' g l c e ∧ Fr b wr w' ∧ R A w w' b s := by
  refine (feed_text hF hE hR (fun e => by rw [hd] at e; cases e) (fun l' c' q => by rw [hd] at q; cases q; exact h9 rfl) m hm).mono ?_
  have hst : s.feed m.data.toList = s := feed_stop (by rw [hd]; simp) _
  rw [hst]
  rintro ev w' ⟨vl, ve, rfl, h1, h2, h3, h4⟩
  rw [rows_none hr] at h1
  rw [hr] at h2
  obtain ⟨x, cp, rfl⟩ := told_none h2
  rw [hd] at h3
  obtain ⟨⟨_, g, _, rfl, hg⟩, _⟩ := h3
  exact ⟨g, x, cp, rfl, hg, h4, h1⟩
theorem err_text {T : Nat → ByteArray} {N : Nat} (hS : SG w A) (hI : IT w T N) (hb : Below w.heap.size w wr) {g l c e : Nat} {x : ByteArray} (hx : w.cell? (A e) = some (.string x)) (hz : x.size < 1000) (hl : l ≤ N) (hc : c ≤ N) (hg : Flt A wr g l c e) :
    Calls Tryz.prog 28 #[PT g] wr fun ev w' => ev = .returned (.string (ftext T l c x)) ∧ Below wr.heap.size wr w' :=
  fault_error T g l c (A e) x wr (hI.below hb) hl hc hg ((hb.cell (World.block_lt_of_cell? w _ hx)).trans hx) hz
theorem Flt.below {g l c e : Nat} {w' : World} (h : Flt A wr g l c e) (k : Below wr.heap.size wr w') : Flt A w' g l c e := (k.block g (blt h)).trans h
end Go.Proofs.YtappphffbnkloaaGreatDoor.Sht
set_option linter.unusedVariables false
namespace Go.Proofs.YtappphffbnkloaaGreatDoor.Sht
open Go Go.RowKit Go.ChangeShapes Go.WideShapes
set_option maxRecDepth 100000 in
theorem tb_of_shape {W : World} (h : W.ShapedOpen Tryz.prog) : ∃ tb, Itoa.Tb W tb := by
  obtain ⟨cs, hh, hs, hr⟩ := h.1 21 (Array.replicate 20 (.int .u64 0)) 196 (of_decide_eq_true (by kernel_rfl)) (by kernel_rfl)
  obtain ⟨ts, hts, _, hall⟩ := hr (by kernel_rfl)
  have hts' : Tryz.prog.cellTypes Tryz.prog.depth 196 = some (List.replicate 20 129) := by kernel_rfl
  rw [hts'] at hts
  obtain rfl := Option.some.inj hts
  refine ⟨fun q => match cs[q]? with | some (.int _ n) => n | _ => 0, fun q hq => ?_⟩
  have hq' : q < cs.size := by rw [hs, Array.size_replicate]; exact hq
  obtain ⟨u, hu, hok⟩ := hall q cs[q] (Array.getElem?_eq_getElem hq')
  have hu' : u = 129 := by
    rw [List.length_replicate, Nat.mod_eq_of_lt hq, List.getElem?_replicate, if_pos hq] at hu
    exact (Option.some.inj hu).symm
  subst hu'
  have hcell : W.cell? ⟨21, q, none⟩ = some cs[q] := by unfold World.cell?; rw [hh]; exact Array.getElem?_eq_getElem hq'
  rw [hcell]
  unfold Cell.ok at hok
  rw [Tryz.underlying129] at hok
  have hg : cs[q]? = some cs[q] := Array.getElem?_eq_getElem hq'
  show some cs[q] = some (Value.int IntKind.u64 (match cs[q]? with | some (.int _ n) => n | _ => 0))
  rw [hg]
  cases hv : cs[q] <;> rw [hv] at hok <;> first | (obtain ⟨rfl, _⟩ := hok; rfl) | exact hok.elim | simp at hok
section
variable {H : Type} {enc : TypeId × Value → H} {w : World} {v : Value} {d : DataW H} {p : List MemPlace}
theorem weights_strs {P : Program} (e : TypeId) : ∀ (l : List ByteArray) (s : ByteArray), s ∈ l → s.data.toList.length ∈ DataW.weightsAll P e (strs (H := H) l)
  | [], s, h => by simp at h
  | x :: l, s, h => by
    show _ ∈ (DataW.weights P e (.lit (.string x.data.toList) : DataW H)) ++ DataW.weightsAll P e (strs l)
    rcases List.mem_cons.1 h with rfl | h
    · exact List.mem_append_left _ (by simp [DataW.weights])
    · exact List.mem_append_right _ (weights_strs e l s h)
theorem open_texts (hk : Value.okWide Tryz.prog w .any 0 28 v ∨ True) (ho : ∃ a l c, v = .slice a l c) (h : DataW.Trod enc Tryz.prog w 0 (fun _ => true) true 28 v d p) (hc : Tryz.prog.cellsOf 9 = 1)
    (hsz : ∀ n, n ∈ d.weights Tryz.prog 28 → n ≤ reachBytes) :
    ∃ (x : Option Addr) (ms : List ByteArray) (cap : Nat), v = .slice x ms.length cap ∧ (∀ m ∈ ms, m.size ≤ 4611686018427387904) ∧ ms.length ≤ 9223372036854775807 ∧
      ∀ i (h : i < ms.length), ∃ ad : Addr, x = some ad ∧ w.cell? (ad.add i) = some (.string ms[i]) := by
  obtain ⟨a, l, c, rfl⟩ := ho
  obtain ⟨fuel, hf⟩ := h
  rcases open_strings Tryz.underlying28 Tryz.underlying9 hc hf with ⟨hcs, hx⟩ | ⟨a, len, cap, ss, hcs, _, hl, hm, hz, hx, hcell, hs⟩
  · refine ⟨none, [], 0, (List.cons.inj (show [Value.slice a l c] = [_] from hcs)).1, fun m hm => by simp at hm, by simp, fun i h => absurd h (by simp)⟩
  · have hlen : (ss.take len).length = len := by rw [List.length_take, hz]; simp; omega
    refine ⟨some a, ss.take len, cap, ?_, fun m hm' => ?_, by rw [hlen]; simp only [maxLen] at hm; omega, fun i h => ⟨a, rfl, ?_⟩⟩
    · rw [hlen]; exact (List.cons.inj (show [Value.slice _ l c] = [_] from hcs)).1
    · have hd : d = .slice (strs (ss.take len)) (strs (ss.drop len)) := congrArg Prod.fst hx
      have := hsz m.data.toList.length (by
        rw [hd]
        unfold DataW.weights
        rw [Tryz.underlying28]
        exact List.mem_cons_of_mem _ (List.mem_append_left _ (weights_strs _ _ _ hm')))
      rw [Array.length_toList] at this
      have hr := reachBytes_lt
      show m.data.size ≤ _
      omega
    · have hi : i < ss.length := by rw [List.length_take] at h; omega
      rw [hcell i hi, List.getD_eq_getElem?_getD, List.getElem?_eq_getElem hi, List.getElem_take]
      rfl
end
end Go.Proofs.YtappphffbnkloaaGreatDoor.Sht
