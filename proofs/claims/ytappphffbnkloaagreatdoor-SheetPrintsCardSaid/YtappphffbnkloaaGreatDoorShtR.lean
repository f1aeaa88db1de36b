/- The reference's reading of a sheet is the machine's: words, a fault's place. -/
import Derived.Test.YtappphffbnkloaaGreatDoorShtN
import Derived.Test.YtappphffbnkloaaGreatDoorGSxf70
import Derived.IntWalk
set_option linter.unusedVariables false
set_option linter.unusedSimpArgs false
namespace Go.Proofs.YtappphffbnkloaaGreatDoor.Sht
open Go Go.RowKit Go.Proofs.YtappphffbnkloaaGreatDoorW.PrintWords Go.Proofs.YtappphffbnkloaaGreatDoor.GS
/-! ### rounds enough -/
def Ev {α : Type} (g : Nat → Option α) (r : α) : Prop := ∃ K, ∀ k, K ≤ k → g k = some r
section
variable {α β : Type} {r : α}
theorem Ev.here : Ev (fun _ => some r) r := ⟨0, fun _ _ => rfl⟩
theorem Ev.const {o : Option α} (h : o = some r) : Ev (fun _ => o) r := ⟨0, fun _ _ => h⟩
theorem Ev.succ {f body : Nat → Option α} (h : ∀ k, f (k + 1) = body k) (hb : Ev body r) : Ev f r := by
  obtain ⟨K, hK⟩ := hb
  refine ⟨K + 1, fun k hk => ?_⟩
  obtain ⟨m, rfl⟩ : ∃ m, k = m + 1 := ⟨k - 1, by omega⟩
  rw [h]
  exact hK m (by omega)
theorem Ev.pos {c : Prop} [Decidable c] {a b : Nat → Option α} (hc : c) (h : Ev a r) : Ev (fun k => if c then a k else b k) r := by
  obtain ⟨K, hK⟩ := h
  exact ⟨K, fun k hk => by show (if c then a k else b k) = some r; rw [if_pos hc]; exact hK k hk⟩
theorem Ev.neg {c : Prop} [Decidable c] {a b : Nat → Option α} (hc : ¬ c) (h : Ev b r) : Ev (fun k => if c then a k else b k) r := by
  obtain ⟨K, hK⟩ := h
  exact ⟨K, fun k hk => by show (if c then a k else b k) = some r; rw [if_neg hc]; exact hK k hk⟩
theorem Ev.bind {g : Nat → Option β} {h : Nat → β → Option α} {x : β} (h1 : Ev g x) (h2 : Ev (fun k => h k x) r) : Ev (fun k => (g k).bind (h k)) r := by
  obtain ⟨K1, k1⟩ := h1
  obtain ⟨K2, k2⟩ := h2
  exact ⟨max K1 K2, fun k hk => by show (g k).bind (h k) = some r; rw [k1 k (by omega)]; exact k2 k (by omega)⟩
theorem Ev.bind1 {o : Option β} {h : Nat → β → Option α} {x : β} (h1 : o = some x) (h2 : Ev (fun k => h k x) r) : Ev (fun k => o.bind (h k)) r := by
  obtain ⟨K2, k2⟩ := h2
  exact ⟨K2, fun k hk => by show o.bind (h k) = some r; rw [h1]; exact k2 k hk⟩
theorem Ev.of {g h : Nat → Option α} (e : ∀ k, g k = h k) (k : Ev h r) : Ev g r := by
  obtain ⟨K, hK⟩ := k
  exact ⟨K, fun k hk => (e k).trans (hK k hk)⟩
end
/-! ### a place: its line, its column -/
def lcS (q : Nat × Nat) (x : UInt8) : Nat × Nat := if x = 10 then (q.1 + 1, 0) else (q.1, q.2 + 1)
def lc (l : List UInt8) : Nat × Nat := l.foldl lcS (1, 0)
theorem lc_snoc (l : List UInt8) (x : UInt8) : lc (l ++ [x]) = lcS (lc l) x := by simp [lc]
theorem take_snoc {l : List UInt8} {p : Nat} (h : p < l.length) : l.take (p + 1) = l.take p ++ [l[p]] := by rw [List.take_succ_eq_append_getElem h]
theorem lc_bd (l : List UInt8) : (lc l).1 ≤ l.length + 1 ∧ (lc l).2 ≤ l.length := by
  have h : ∀ (l : List UInt8) (q : Nat × Nat) (n : Nat), q.1 ≤ n + 1 → q.2 ≤ n → (l.foldl lcS q).1 ≤ n + l.length + 1 ∧ (l.foldl lcS q).2 ≤ n + l.length := by
    intro l
    induction l with
    | nil => intro q n h1 h2; exact ⟨by simpa using h1, by simpa using h2⟩
    | cons x l ih =>
      intro q n h1 h2
      have := ih (lcS q x) (n + 1) (by unfold lcS; split <;> simp <;> omega) (by unfold lcS; split <;> simp <;> omega)
      simp only [List.foldl_cons, List.length_cons]
      omega
  have := h l (1, 0) 0 (by simp) (by simp)
  unfold lc
  omega
section
variable (t : ByteArray)
abbrev L8 : List UInt8 := t.data.toList
theorem L8_len : (L8 t).length = t.size := by rw [Array.length_toList]; rfl
theorem bt_eq (p : Nat) (h : p < (L8 t).length) : bt t (p : Int) = ((L8 t)[p].toNat : Int) := by
  have h' : p < t.size := by rw [← L8_len]; exact h
  have : ((p : Int)).toNat = p := by simp
  unfold bt
  simp only [this, h', dif_pos]
  rfl
theorem bt_is (p : Nat) (h : p < (L8 t).length) (k : UInt8) : bt t (p : Int) = (k.toNat : Int) ↔ (L8 t)[p] = k := by
  rw [bt_eq t p h]
  constructor
  · intro e; exact UInt8.toNat_inj.1 (by omega)
  · rintro rfl; rfl
theorem w1 (p : Nat) (h : p < 4611686018427387904) : wrap64 ((p : Int) + 1) = ((p + 1 : Nat) : Int) := by unfold wrap64; omega
theorem w2 (p : Nat) (h : p < 4611686018427387904) : wrap64 ((p : Int) + 2) = ((p + 2 : Nat) : Int) := by unfold wrap64; omega
/-- what 'placed' tells -/
def plc (code : Int) (q : Nat) : Int × Int × Int × Int × Int := (code, ((lc ((L8 t).take q)).1 : Int), ((lc ((L8 t).take q)).2 : Int), (q : Int), 0)
theorem placed_l (code : Int) (q : Nat) (hq : q ≤ (L8 t).length) (hs : (L8 t).length ≤ 140737488355328) : ∀ (d i : Nat), q - i = d → i ≤ q →
    Ev (fun k => larderref04_placed.l0 k t q i code ((lc ((L8 t).take i)).1 : Int) ((lc ((L8 t).take i)).2 : Int) q 0) (plc t code q) := by
  intro d
  induction d with
  | zero =>
    intro i h1 h2
    obtain rfl : i = q := by omega
    exact Ev.succ (fun k => larderref04_placed.l0.eq_2 ..) (Ev.neg (by omega) Ev.here)
  | succ d ih =>
    intro i h1 h2
    have hi : i < (L8 t).length := by omega
    have hb := lc_bd ((L8 t).take i)
    have hl : ((L8 t).take i).length ≤ i := List.length_take_le _ _
    have hsz := L8_len t
    have hr := ih (i + 1) (by omega) (by omega)
    rw [take_snoc hi, lc_snoc] at hr
    refine Ev.succ (fun k => larderref04_placed.l0.eq_2 ..) (Ev.pos (by omega) (Ev.pos (by omega) (Ev.pos (by omega) ?_)))
    by_cases hx : (L8 t)[i] = 10
    · refine Ev.pos ((bt_is t i hi 10).2 hx) ?_
      rw [w1 _ (by omega), w1 _ (by omega)]
      rw [lcS, if_pos hx] at hr
      exact hr
    · refine Ev.neg (fun e => hx ((bt_is t i hi 10).1 e)) ?_
      rw [w1 _ (by omega), w1 _ (by omega)]
      rw [lcS, if_neg hx] at hr
      exact hr
theorem placed_ev (code : Int) (q : Nat) (hq : q ≤ (L8 t).length) (hs : (L8 t).length ≤ 140737488355328) : Ev (fun k => larderref04_placed.f k t code q) (plc t code q) :=
  placed_l t code q hq hs _ 0 rfl (Nat.zero_le _)
/-! ### where the machine stands -/
structure Reach (s : RS) (p : Nat) : Prop where
  le : p ≤ (L8 t).length
  go : RS.new.feed (L8 t) = s.feed ((L8 t).drop p)
  all : s.all = p
  pos : (s.line, s.col) = lc ((L8 t).take p)
  ok : s.fault = none
theorem reach_new : Reach t RS.new 0 := ⟨Nat.zero_le _, rfl, rfl, rfl, rfl⟩
/-- the state that meets a byte -/
def up (s : RS) : RS := { s with all := s.all + 1 }
theorem reach_step {s : RS} {p : Nat} (hr : Reach t s p) (hp : p < (L8 t).length) (hn : (L8 t).length ≤ 262144) :
    ((RS.next (up s) (L8 t)[p]).fault = none → Reach t ((RS.next (up s) (L8 t)[p]).on (L8 t)[p]) (p + 1)) ∧
    ((RS.next (up s) (L8 t)[p]).fault ≠ none → RS.new.feed (L8 t) = (RS.next (up s) (L8 t)[p]).on (L8 t)[p]) := by
  have hg : RS.new.feed (L8 t) = ((RS.next (up s) (L8 t)[p]).on (L8 t)[p]).feed ((L8 t).drop (p + 1)) := by
    rw [hr.go, List.drop_eq_getElem_cons hp, feed_cons hr.ok, step_on (by have := hr.all; omega)]
    rfl
  have hk := kNext (up s) (L8 t)[p]
  refine ⟨fun hf => ⟨hp, hg, ?_, ?_, ?_⟩, fun hf => ?_⟩
  · unfold RS.on
    split <;> exact hk.all.trans (by show s.all + 1 = p + 1; rw [hr.all])
  · rw [take_snoc hp, lc_snoc, ← hr.pos, lcS]
    unfold RS.on
    split
    · show ((RS.next (up s) (L8 t)[p]).line + 1, 0) = (s.line + 1, 0)
      rw [hk.line]; rfl
    · show ((RS.next (up s) (L8 t)[p]).line, (RS.next (up s) (L8 t)[p]).col + 1) = (s.line, s.col + 1)
      rw [hk.line, hk.col]; rfl
  · rw [on_fault]; exact hf
  · rw [hg]
    exact feed_stop (by rw [on_fault]; exact hf) _
theorem reach_end {s : RS} (hr : Reach t s (L8 t).length) : RS.new.feed (L8 t) = s := by
  rw [hr.go, List.drop_length]; rfl
/-! ### a fault: told at a byte, or at the text's end -/
def Bad (rows : List (List (List UInt8))) (c q : Nat) : Prop :=
  q ≤ (L8 t).length ∧ (RS.new.feed (L8 t)).rows = rows ∧
  (((RS.new.feed (L8 t)).fault = some ((lc ((L8 t).take q)).1, (lc ((L8 t).take q)).2, c) ∧ c ≠ 0 ∧ c ≠ 1 ∧ (c = 3 → (∃ h : q < (L8 t).length, (L8 t)[q] = 10) ∨ q + 1 < (L8 t).length) ∧ (c = 8 → q < (L8 t).length)) ∨
   ((RS.new.feed (L8 t)).fault = none ∧ (RS.new.feed (L8 t)).fin.fault = some ((lc ((L8 t).take q)).1, (lc ((L8 t).take q)).2, c) ∧ (c = 1 ∨ (c = 3 ∧ q + 1 = (L8 t).length ∧ ∃ h : q < (L8 t).length, (L8 t)[q] ≠ 10) ∨ (c = 8 ∧ q = (L8 t).length))))
/-- what a cell, a row leave of the state -/
structure Sm (s s' : RS) : Prop where
  row : s'.row = s.row
  rows : s'.rows = s.rows
  count : s'.count = s.count
  width : s'.width = s.width
theorem Sm.refl (s : RS) : Sm s s := ⟨rfl, rfl, rfl, rfl⟩
theorem Sm.trans {a b c : RS} (h : Sm a b) (k : Sm b c) : Sm a c := ⟨k.row.trans h.row, k.rows.trans h.rows, k.count.trans h.count, k.width.trans h.width⟩
theorem on_same (s : RS) (x : UInt8) : Sm s (s.on x) ∧ (s.on x).md = s.md ∧ (s.on x).cell = s.cell ∧ (s.on x).ml = s.ml ∧ (s.on x).mc = s.mc := by
  unfold RS.on
  split <;> exact ⟨⟨rfl, rfl, rfl, rfl⟩, rfl, rfl, rfl, rfl⟩
/-- a byte that the machine refuses at its own place -/
theorem bad_at {s s1 : RS} {p c : Nat} (hr : Reach t s p) (hp : p < (L8 t).length) (hn : (L8 t).length ≤ 262144) (e : RS.next (up s) (L8 t)[p] = s1.fail s.line s.col c) (hw : s1.rows = s.rows)
    (hc : c ≠ 0 ∧ c ≠ 1 ∧ (c = 3 → (L8 t)[p] = 10)) : Bad t s.rows c p := by
  have hg := (reach_step t hr hp hn).2 (by rw [e]; intro h; cases h)
  rw [e] at hg
  refine ⟨hr.le, ?_, .inl ⟨?_, hc.1, hc.2.1, fun h => .inl ⟨hp, hc.2.2 h⟩, fun _ => hp⟩⟩
  · rw [hg, ((on_same _ _).1).rows]; exact hw
  · rw [hg, on_fault, ← hr.pos]; rfl
end
end Go.Proofs.YtappphffbnkloaaGreatDoor.Sht
