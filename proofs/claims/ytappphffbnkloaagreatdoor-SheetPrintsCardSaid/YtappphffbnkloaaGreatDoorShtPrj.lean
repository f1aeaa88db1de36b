-- joined out of the texts ShtQp ShtPo ShtBd ShtAny ShtPa ShtPb ShtPd ShtSm ShtBk
import Derived.Test.YtappphffbnkloaaGreatDoorShtN
import Derived.Test.YtappphffbnkloaaGreatDoorProg
import Derived.WalkKit
import Derived.Below
import Derived.Lib.Builder
import Derived.Lib.Hide
import Derived.RegionTactic
import Derived.Shelf.Strings.Builder1
import Derived.Test.YtappphffbnkloaaGreatDoorShelf
import Derived.Test.YtappphffbnkloaaGreatDoorWWords
import Derived.Laws.RangeAny
import Derived.Laws.Runes
import Derived.Lib.IndexLaws
import Derived.Lib.IndexAny
import Derived.WalkSmall
import Derived.WalkMore
import Derived.Deep.QuietTactic
import Derived.Deep.LoopGhost
import Derived.BigQuiet
import Derived.IntWalk
import Derived.Test.YtappphffbnkloaaGreatDoorShtE
import Derived.Lib.SplitLaws
import Derived.Lib.ReplaceLaws
import Derived.Lib.UnsafeStr
import Derived.Deep.RegionWith
import Derived.LoopTactic
import Derived.Test.YtappphffbnkloaaGreatDoorShtW
import Derived.Test.YtappphffbnkloaaGreatDoorShtQ
set_option linter.unusedVariables false
set_option linter.unusedSimpArgs false
namespace Go.Proofs.YtappphffbnkloaaGreatDoor.Sht.Qd
/-- a state but for its places -/
structure At (m : Md) (c : List UInt8) (r : List (List UInt8)) (rs : Rows) (n w a : Nat) (s : RS) : Prop where
  md : s.md = m
  cell : s.cell = c
  row : s.row = r
  rows : s.rows = rs
  count : s.count = n
  width : s.width = w
  fault : s.fault = none
  all : s.all ≤ a
section
variable {m m' : Md} {c c' : List UInt8} {r r' : List (List UInt8)} {rs rs' : Rows} {n n' w w' a a' : Nat} {s : RS} {x : UInt8}
theorem At.on (h : At m c r rs n w a s) (x : UInt8) : At m c r rs n w a (s.on x) := by
  unfold RS.on
  split <;> exact ⟨h.md, h.cell, h.row, h.rows, h.count, h.width, h.fault, h.all⟩
theorem At.more (h : At m c r rs n w a s) (k : a ≤ a') : At m c r rs n w a' s := ⟨h.md, h.cell, h.row, h.rows, h.count, h.width, h.fault, Nat.le_trans h.all k⟩
theorem At.step (h : At m c r rs n w a s) (ha : a < 262144) (k : ∀ s', At m c r rs n w (a + 1) s' → At m' c' r' rs' n' w' a' (s'.next x)) : At m' c' r' rs' n' w' a' (s.step x) := by
  unfold RS.step
  rw [if_neg (by have := h.all; omega)]
  exact (k { s with all := s.all + 1 } ⟨h.md, h.cell, h.row, h.rows, h.count, h.width, h.fault, by show s.all + 1 ≤ a + 1; have := h.all; omega⟩).on x
theorem step_fault (h : At m c r rs n w a s) (ha : a < 262144) {e : Nat} (k : ∀ s', At m c r rs n w (a + 1) s' → ∃ p q, (s'.next x).fault = some (p, q, e)) : ∃ p q, (s.step x).fault = some (p, q, e) := by
  unfold RS.step
  rw [if_neg (by have := h.all; omega)]
  obtain ⟨p, q, hk⟩ := k { s with all := s.all + 1 } ⟨h.md, h.cell, h.row, h.rows, h.count, h.width, h.fault, by show s.all + 1 ≤ a + 1; have := h.all; omega⟩
  refine ⟨p, q, ?_⟩
  unfold RS.on
  split <;> exact hk
theorem At.comma (h : At m c r rs n w a s) (hl : r.length < 63) : At .start [] (r ++ [c]) rs n w a s.comma := by
  unfold RS.comma
  rw [if_neg (by show ¬ (s.row ++ [s.cell]).length = 64; rw [h.row]; simp; omega)]
  exact ⟨rfl, rfl, by show s.row ++ [s.cell] = _; rw [h.row, h.cell], h.rows, h.count, h.width, h.fault, h.all⟩
theorem At.turn (h : At m c r rs n w a s) (m' : Md) : At m' c r rs n w a (s.turn m') := ⟨rfl, h.cell, h.row, h.rows, h.count, h.width, h.fault, h.all⟩
theorem At.put (h : At m c r rs n w a s) (hl : c.length < 4096) : At m (c ++ [x]) r rs n w a (s.put x) := by
  unfold RS.put
  rw [if_neg (by rw [h.cell]; simp; omega)]
  exact ⟨h.md, by show s.cell ++ [x] = _; rw [h.cell], h.row, h.rows, h.count, h.width, h.fault, h.all⟩
theorem put_full (h : At m c r rs n w a s) (hl : c.length = 4096) : ∃ p q, (s.put x).fault = some (p, q, 5) := by
  unfold RS.put
  rw [if_pos (by rw [h.cell]; simp; omega)]
  exact ⟨_, _, rfl⟩
theorem next_beg (h : At m c r rs n w a s) (hm : m = .fresh ∨ m = .start) (hn : n ≠ 4096) : s.next x = s.start x := by
  unfold RS.next
  rw [h.md]
  rcases hm with rfl | rfl
  · show s.fresh x = _
    unfold RS.fresh
    rw [if_neg (by rw [h.count]; exact hn)]
  · rfl
theorem next_quoted (h : At .quoted c r rs n w a s) : s.next x = s.quoted x := by unfold RS.next; rw [h.md]
theorem next_closed (h : At .closed c r rs n w a s) : s.next x = s.closed x := by unfold RS.next; rw [h.md]
theorem next_plain (h : At .plain c r rs n w a s) : s.next x = s.plain x := by unfold RS.next; rw [h.md]
theorem next_back (h : At .back c r rs n w a s) : s.next x = s.back x := by unfold RS.next; rw [h.md]
end
theorem commas : ∀ k, k ≤ 60 → ∃ m, (m = Md.fresh ∨ m = .start) ∧ At m [] (List.replicate k []) [] 0 0 k (RS.new.feed (List.replicate k 44))
  | 0, _ => ⟨.fresh, .inl rfl, ⟨rfl, rfl, rfl, rfl, rfl, rfl, rfl, Nat.le_refl _⟩⟩
  | k + 1, hk => by
    obtain ⟨m, hm, h⟩ := commas k (by omega)
    refine ⟨.start, .inr rfl, ?_⟩
    rw [List.replicate_succ', List.replicate_succ', feed_snoc _ _ _ h.fault]
    refine h.step (by omega) fun s' h' => ?_
    rw [next_beg h' hm (by decide)]
    exact (h'.turn .plain).comma (by simp; omega)
theorem begin_quoted {m : Md} {r : List (List UInt8)} {a : Nat} {s : RS} (h : At m [] r [] 0 0 a s) (hm : m = .fresh ∨ m = .start) (ha : a < 262144) : At .quoted [] r [] 0 0 (a + 1) (s.step 34) :=
  h.step ha fun s' h' => by
    rw [next_beg h' hm (by decide)]
    exact ⟨rfl, h'.cell, h'.row, h'.rows, h'.count, h'.width, h'.fault, h'.all⟩
def esc : List UInt8 → List UInt8
  | [] => []
  | x :: l => if x = 34 then 34 :: 34 :: esc l else x :: esc l
theorem esc_app : ∀ l m, esc (l ++ m) = esc l ++ esc m
  | [], _ => rfl
  | x :: l, m => by
    rw [List.cons_append]
    show (if x = 34 then 34 :: 34 :: esc (l ++ m) else x :: esc (l ++ m)) = (if x = 34 then 34 :: 34 :: esc l else x :: esc l) ++ esc m
    rw [esc_app l m]
    split <;> rfl
theorem esc_len : ∀ l, (esc l).length ≤ 2 * l.length
  | [] => Nat.le_refl _
  | x :: l => by
    have := esc_len l
    unfold esc
    split <;> simp <;> omega
theorem run_q {r : List (List UInt8)} {rs : Rows} {n w : Nat} : ∀ (l : List UInt8) (c : List UInt8) (a : Nat) (s : RS), At .quoted c r rs n w a s → (∀ x ∈ l, okB x = true) → c.length + l.length ≤ 4096 → a + 2 * l.length ≤ 262144 →
    At .quoted (c ++ l) r rs n w (a + 2 * l.length) (s.feed (esc l))
  | [], c, a, s, h, _, _, _ => by simpa [esc, RS.feed] using h
  | x :: l, c, a, s, h, ho, hl, ha => by
    simp only [List.length_cons] at hl ha
    have hx := ho x List.mem_cons_self
    have ho' : ∀ y ∈ l, okB y = true := fun y hy => ho y (List.mem_cons_of_mem _ hy)
    unfold esc
    by_cases e : x = 34
    · rw [if_pos e, feed_cons h.fault]
      have h1 : At .closed c r rs n w (a + 1) (s.step 34) := h.step (by omega) fun s' h' => by
        rw [next_quoted h']
        exact h'.turn .closed
      rw [feed_cons h1.fault]
      have h2 : At .quoted (c ++ [34]) r rs n w (a + 2) ((s.step 34).step 34) := h1.step (by omega) fun s' h' => by
        rw [next_closed h']
        exact (h'.turn .quoted).put (by omega)
      have := run_q l _ _ _ h2 ho' (by simp; omega) (by omega)
      subst e
      simpa [Nat.mul_add, Nat.add_assoc, Nat.add_comm, Nat.add_left_comm] using this
    · rw [if_neg e, feed_cons h.fault]
      have h1 : At .quoted (c ++ [x]) r rs n w (a + 1) (s.step x) := h.step (by omega) fun s' h' => by
        rw [next_quoted h']
        unfold RS.quoted
        rw [if_neg e, if_neg (by rw [hx]; decide)]
        exact h'.put (by omega)
      have := run_q l _ _ _ h1 ho' (by simp; omega) (by omega)
      refine At.more (by simpa using this) (by simp; omega)
/-- the sheet of the law -/
def Qt (n : Nat) (l : List UInt8) : List UInt8 := List.replicate n 44 ++ (34 :: esc l) ++ [34, 44, 122, 13, 10]
theorem parse_fault {l : List UInt8} {f : Nat × Nat × Nat} (h : (RS.new.feed l).fault = some f) : parseO l = ([], some f) := by
  unfold parseO
  rw [if_pos (by rw [h]; simp), h]
theorem fault_on {s : RS} {l : List UInt8} {f : Nat × Nat × Nat} (h : s.fault = some f) : (s.feed l).fault = some f := by
  rw [feed_stop (by rw [h]; simp), h]
/-- up to the cell's end -/
theorem upto (n : Nat) (hn : n ≤ 60) (l : List UInt8) (ho : ∀ x ∈ l, okB x = true) (hl : l.length ≤ 4096) :
    At .quoted l (List.replicate n []) [] 0 0 (n + 1 + 2 * l.length) (RS.new.feed (List.replicate n 44 ++ (34 :: esc l))) := by
  obtain ⟨m, hm, h⟩ := commas n hn
  have h1 := begin_quoted h hm (by omega)
  rw [feed_app, feed_cons h.fault]
  have := run_q l [] _ _ h1 ho (by simpa using hl) (by omega)
  simpa using this
theorem quoted_good (n : Nat) (hn : n ≤ 60) (l : List UInt8) (ho : ∀ x ∈ l, okB x = true) (hl : l.length ≤ 4096) : parseO (Qt n l) = ([List.replicate n [] ++ [l, [122]]], none) := by
  have h0 := upto n hn l ho hl
  have h1 : At .closed l (List.replicate n []) [] 0 0 (n + 1 + 2 * l.length + 1) (RS.step (RS.new.feed (List.replicate n 44 ++ (34 :: esc l))) 34) := h0.step (by omega) fun s' h' => by
    rw [next_quoted h']
    exact h'.turn .closed
  have h2 := h1.step (x := 44) (by omega) fun s' h' => by
    rw [next_closed h']
    exact h'.comma (by simp; omega)
  have h3 : At .plain [122] (List.replicate n [] ++ [l]) [] 0 0 (n + 1 + 2 * l.length + 1 + 1 + 1) _ := h2.step (x := 122) (by omega) fun s' h' => by
    rw [next_beg h' (.inr rfl) (by decide)]
    exact (h'.turn .plain).put (x := 122) (by decide)
  have h4 : At .back [] (List.replicate n [] ++ [l] ++ [[122]]) [] 0 0 (n + 1 + 2 * l.length + 1 + 1 + 1 + 1) _ := h3.step (x := 13) (by omega) fun s' h' => by
    rw [next_plain h']
    exact ⟨rfl, rfl, by show s'.row ++ [s'.cell] = _; rw [h'.row, h'.cell], h'.rows, h'.count, h'.width, h'.fault, h'.all⟩
  have h5 : At .fresh [] [] [List.replicate n [] ++ [l] ++ [[122]]] 1 (n + 2) (n + 1 + 2 * l.length + 1 + 1 + 1 + 1 + 1) _ := h4.step (x := 10) (by omega) fun s' h' => by
    rw [next_back h']
    show At .fresh _ _ _ _ _ _ (s'.endRow s'.ml s'.mc)
    have hw : s'.widen = { s' with width := s'.row.length } := by unfold RS.widen; rw [if_pos h'.count]
    unfold RS.endRow
    rw [hw, if_pos rfl]
    exact ⟨rfl, h'.cell, rfl, by show s'.rows ++ [s'.row] = _; rw [h'.rows, h'.row]; rfl, by show s'.count + 1 = 1; rw [h'.count], by show s'.row.length = _; rw [h'.row]; simp, h'.fault, h'.all⟩
  have e : RS.new.feed (Qt n l) = ((((RS.step (RS.new.feed (List.replicate n 44 ++ (34 :: esc l))) 34).step 44).step 122).step 13).step 10 := by
    unfold Qt
    rw [feed_app, feed_cons h0.fault, feed_cons h1.fault, feed_cons h2.fault, feed_cons h3.fault, feed_cons h4.fault]
    rfl
  unfold parseO
  rw [e]
  have hf : ∀ s : RS, At .fresh [] [] [List.replicate n [] ++ [l] ++ [[122]]] 1 (n + 2) (n + 1 + 2 * l.length + 1 + 1 + 1 + 1 + 1) s → (if s.fault ≠ none then (([] : Rows), s.fault) else if (RS.fin { s with rows := [] }).fault ≠ none then ([], (RS.fin { s with rows := [] }).fault) else (s.rows ++ (RS.fin { s with rows := [] }).rows, none)) = ([List.replicate n [] ++ [l, [122]]], none) := by
    intro s h
    have hfin : RS.fin { s with rows := [] } = { s with rows := [] } := by
      unfold RS.fin
      rw [if_pos h.fault]
      unfold RS.over
      show (match s.md with | .fresh => _ | .start => _ | .plain => _ | .closed => _ | .quoted => _ | .back => _) = _
      rw [h.md]
    rw [if_neg (by rw [h.fault]; simp), hfin, if_neg (by show ¬ s.fault ≠ none; rw [h.fault]; simp), h.rows]
    simp
  exact hf _ h5
theorem quoted_bad (n : Nat) (hn : n ≤ 60) (l1 l2 : List UInt8) (x : UInt8) (ho : ∀ y ∈ l1, okB y = true) (hx : okB x = false) (hl : l1.length ≤ 4096) : ∃ p q, parseO (Qt n (l1 ++ x :: l2)) = ([], some (p, q, 4)) := by
  have h0 := upto n hn l1 ho hl
  have hx34 : x ≠ 34 := by rintro rfl; exact absurd hx (by decide)
  obtain ⟨p, q, hf⟩ := step_fault (x := x) (e := 4) h0 (by omega) fun s' h' => by
    rw [next_quoted h']
    unfold RS.quoted
    rw [if_neg hx34, if_pos hx]
    exact ⟨_, _, rfl⟩
  refine ⟨p, q, parse_fault ?_⟩
  have e : Qt n (l1 ++ x :: l2) = (List.replicate n 44 ++ (34 :: esc l1)) ++ (x :: (esc l2 ++ [34, 44, 122, 13, 10])) := by
    unfold Qt
    rw [esc_app]
    have : esc (x :: l2) = x :: esc l2 := by conv => lhs; unfold esc; rw [if_neg hx34]
    rw [this]
    simp
  rw [e, feed_app, feed_cons h0.fault]
  exact fault_on hf
theorem quoted_long (n : Nat) (hn : n ≤ 60) (l1 l2 : List UInt8) (x : UInt8) (ho : ∀ y ∈ l1, okB y = true) (hl : l1.length = 4096) : ∃ p q e, (e = 4 ∨ e = 5) ∧ parseO (Qt n (l1 ++ x :: l2)) = ([], some (p, q, e)) := by
  by_cases hx : okB x = false
  · obtain ⟨p, q, h⟩ := quoted_bad n hn l1 l2 x ho hx (by omega)
    exact ⟨p, q, 4, .inl rfl, h⟩
  · have hx' : okB x = true := by simpa using hx
    have h0 := upto n hn l1 ho (by omega)
    by_cases e : x = 34
    · subst e
      have h1 : At .closed l1 (List.replicate n []) [] 0 0 (n + 1 + 2 * l1.length + 1) (RS.step (RS.new.feed (List.replicate n 44 ++ (34 :: esc l1))) 34) := h0.step (by omega) fun s' h' => by
        rw [next_quoted h']
        exact h'.turn .closed
      obtain ⟨p, q, hf⟩ := step_fault (x := 34) (e := 5) h1 (by omega) fun s' h' => by
        rw [next_closed h']
        exact put_full (h'.turn .quoted) hl
      refine ⟨p, q, 5, .inr rfl, parse_fault ?_⟩
      have e : Qt n (l1 ++ 34 :: l2) = (List.replicate n 44 ++ (34 :: esc l1)) ++ (34 :: 34 :: (esc l2 ++ [34, 44, 122, 13, 10])) := by
        unfold Qt
        rw [esc_app]
        have : esc (34 :: l2) = 34 :: 34 :: esc l2 := by conv => lhs; unfold esc; rw [if_pos rfl]
        rw [this]
        simp
      rw [e, feed_app, feed_cons h0.fault, feed_cons h1.fault]
      exact fault_on hf
    · obtain ⟨p, q, hf⟩ := step_fault (x := x) (e := 5) h0 (by omega) fun s' h' => by
        rw [next_quoted h']
        unfold RS.quoted
        rw [if_neg e, if_neg (by rw [hx']; decide)]
        exact put_full h' hl
      refine ⟨p, q, 5, .inr rfl, parse_fault ?_⟩
      have e : Qt n (l1 ++ x :: l2) = (List.replicate n 44 ++ (34 :: esc l1)) ++ (x :: (esc l2 ++ [34, 44, 122, 13, 10])) := by
        unfold Qt
        rw [esc_app]
        have : esc (x :: l2) = x :: esc l2 := by conv => lhs; unfold esc; rw [if_neg e]
        rw [this]
        simp
      rw [e, feed_app, feed_cons h0.fault]
      exact fault_on hf
end Go.Proofs.YtappphffbnkloaaGreatDoor.Sht.Qd
set_option linter.unusedVariables false
set_option linter.unusedSimpArgs false
namespace Go.Proofs.YtappphffbnkloaaGreatDoor.Sht
open Qd
/-- must a cell with this byte be quoted? -/
def spec (x : UInt8) : Bool := x == 44 || x == 34 || x == 13 || x == 10 || x == 9
def cellO (c : List UInt8) : List UInt8 := if c.any spec then 34 :: (esc c ++ [34]) else c
def tailO : List (List UInt8) → List UInt8
  | [] => []
  | c :: l => 44 :: (cellO c ++ tailO l)
def cellsO : List (List UInt8) → List UInt8
  | [] => []
  | c :: l => cellO c ++ tailO l
def rowO (r : List (List UInt8)) : List UInt8 := cellsO r ++ [13, 10]
def textO : Rows → List UInt8
  | [] => []
  | r :: l => rowO r ++ textO l
theorem tailO_app : ∀ l m, tailO (l ++ m) = tailO l ++ tailO m
  | [], _ => rfl
  | c :: l, m => by
    rw [List.cons_append]
    show 44 :: (cellO c ++ tailO (l ++ m)) = (44 :: (cellO c ++ tailO l)) ++ tailO m
    rw [tailO_app l m]; simp
theorem cellsO_snoc (l : List (List UInt8)) (c : List UInt8) : cellsO (l ++ [c]) = cellsO l ++ ((if l = [] then [] else [44]) ++ cellO c) := by
  cases l with
  | nil => show cellO c ++ [] = [] ++ ([] ++ cellO c); simp
  | cons d l =>
    rw [if_neg (by simp), List.cons_append]
    show cellO d ++ tailO (l ++ [c]) = (cellO d ++ tailO l) ++ ([44] ++ cellO c)
    rw [tailO_app]
    show cellO d ++ (tailO l ++ (44 :: (cellO c ++ []))) = _
    simp
theorem textO_app : ∀ l m, textO (l ++ m) = textO l ++ textO m
  | [], _ => rfl
  | r :: l, m => by
    rw [List.cons_append]
    show rowO r ++ textO (l ++ m) = (rowO r ++ textO l) ++ textO m
    rw [textO_app l m]; simp
theorem textO_snoc (l : Rows) (r : List (List UInt8)) : textO (l ++ [r]) = textO l ++ rowO r := by
  rw [textO_app]; show _ ++ (rowO r ++ []) = _; simp
/-- the first fault of a row's cells -/
def cellsF (line : Nat) : Nat → List (List UInt8) → Option (Nat × Nat × Nat)
  | _, [] => none
  | k, c :: l => if 4096 < c.length then some (line, k, 5) else if c.all okB = false then some (line, k, 4) else cellsF line (k + 1) l
def rowF (w i : Nat) (r : List (List UInt8)) : Option (Nat × Nat × Nat) :=
  if i = 4096 then some (i + 1, 0, 7) else if r.length = 0 then some (i + 1, 0, 6) else if 64 < r.length then some (i + 1, 64, 6)
  else if r.length ≠ w then some (i + 1, 0, 8) else cellsF (i + 1) 0 r
def rowsF (w : Nat) : Nat → Rows → Option (Nat × Nat × Nat)
  | _, [] => none
  | i, r :: l => if (rowF w i r).isSome then rowF w i r else rowsF w (i + 1) l
def checkO (rs : Rows) : Option (Nat × Nat × Nat) := rowsF (rs.headD []).length 0 rs
def printO (rs : Rows) : List UInt8 × Option (Nat × Nat × Nat) :=
  if (checkO rs).isSome then ([], checkO rs) else if 262144 < (textO rs).length then ([], some (0, 0, 20)) else (textO rs, none)
/-- a row that may be -/
structure RowOk (w : Nat) (r : List (List UInt8)) : Prop where
  pos : 0 < r.length
  few : r.length ≤ 64
  wid : r.length = w
  cells : ∀ c ∈ r, c.length ≤ 4096 ∧ ∀ x ∈ c, okB x = true
theorem cellsF_none (line : Nat) : ∀ (l : List (List UInt8)) (k : Nat), cellsF line k l = none ↔ ∀ c ∈ l, c.length ≤ 4096 ∧ ∀ x ∈ c, okB x = true
  | [], k => by simp [cellsF]
  | c :: l, k => by
    unfold cellsF
    by_cases h1 : 4096 < c.length
    · rw [if_pos h1]
      simp only [reduceCtorEq, List.mem_cons, forall_eq_or_imp, false_iff, not_and]
      intro h; omega
    · rw [if_neg h1]
      by_cases h2 : c.all okB = false
      · rw [if_pos h2]
        simp only [reduceCtorEq, List.mem_cons, forall_eq_or_imp, false_iff, not_and]
        intro h
        have := List.all_eq_true.2 h.2
        rw [h2] at this; cases this
      · rw [if_neg h2, cellsF_none line l]
        have h3 : c.all okB = true := by simpa using h2
        have := List.all_eq_true.1 h3
        simp only [List.mem_cons, forall_eq_or_imp]
        exact ⟨fun h => ⟨⟨by omega, this⟩, h⟩, fun h => h.2⟩
theorem rowF_none (w i : Nat) (r : List (List UInt8)) : rowF w i r = none ↔ i ≠ 4096 ∧ RowOk w r := by
  unfold rowF
  by_cases h1 : i = 4096
  · rw [if_pos h1]; simp [h1]
  rw [if_neg h1]
  by_cases h2 : r.length = 0
  · rw [if_pos h2]
    simp only [reduceCtorEq, false_iff]
    rintro ⟨_, h⟩; have := h.pos; omega
  rw [if_neg h2]
  by_cases h3 : 64 < r.length
  · rw [if_pos h3]
    simp only [reduceCtorEq, false_iff]
    rintro ⟨_, h⟩; have := h.few; omega
  rw [if_neg h3]
  by_cases h4 : r.length ≠ w
  · rw [if_pos h4]
    simp only [reduceCtorEq, false_iff]
    rintro ⟨_, h⟩; exact h4 h.wid
  rw [if_neg h4, cellsF_none]
  exact ⟨fun h => ⟨h1, by omega, by omega, by omega, h⟩, fun h => h.2.cells⟩
theorem rowsF_none (w : Nat) : ∀ (l : Rows) (i : Nat), i ≤ 4096 → (rowsF w i l = none ↔ i + l.length ≤ 4096 ∧ ∀ r ∈ l, RowOk w r)
  | [], i, hi => by simp [rowsF, hi]
  | r :: l, i, hi => by
    unfold rowsF
    cases h : rowF w i r with
    | some f =>
      have : ¬ (i ≠ 4096 ∧ RowOk w r) := fun k => by have := (rowF_none w i r).2 k; rw [h] at this; cases this
      simp only [Option.isSome_some, if_true, reduceCtorEq, false_iff, List.length_cons, List.mem_cons, forall_eq_or_imp]
      rintro ⟨h1, h2, _⟩
      exact this ⟨by omega, h2⟩
    | none =>
      obtain ⟨h1, h2⟩ := (rowF_none w i r).1 h
      simp only [Option.isSome_none, Bool.false_eq_true, if_false, List.length_cons, List.mem_cons, forall_eq_or_imp]
      rw [rowsF_none w l (i + 1) (by omega)]
      exact ⟨fun q => ⟨by omega, h2, q.2⟩, fun q => ⟨by omega, q.2.2⟩⟩
theorem checkO_none (rs : Rows) : checkO rs = none ↔ rs.length ≤ 4096 ∧ ∀ r ∈ rs, RowOk (rs.headD []).length r := by
  unfold checkO; rw [rowsF_none _ _ 0 (by omega)]; simp
/-! ### what is printed is read back -/
section
variable {r : List (List UInt8)} {rs : Rows} {n w : Nat}
theorem run_e : ∀ (l : List UInt8) (c : List UInt8) (a : Nat) (s : RS), At .quoted c r rs n w a s → (∀ x ∈ l, okB x = true) → c.length + l.length ≤ 4096 → a + (esc l).length ≤ 262144 →
    At .quoted (c ++ l) r rs n w (a + (esc l).length) (s.feed (esc l))
  | [], c, a, s, h, _, _, _ => by simpa [esc, RS.feed] using h
  | x :: l, c, a, s, h, ho, hl, ha => by
    simp only [List.length_cons] at hl
    have hx := ho x List.mem_cons_self
    have ho' : ∀ y ∈ l, okB y = true := fun y hy => ho y (List.mem_cons_of_mem _ hy)
    unfold esc at ha ⊢
    by_cases e : x = 34
    · rw [if_pos e] at ha ⊢
      simp only [List.length_cons] at ha
      rw [feed_cons h.fault]
      have h1 : At .closed c r rs n w (a + 1) (s.step 34) := h.step (by omega) fun s' h' => by
        rw [next_quoted h']
        exact h'.turn .closed
      rw [feed_cons h1.fault]
      have h2 : At .quoted (c ++ [34]) r rs n w (a + 2) ((s.step 34).step 34) := h1.step (by omega) fun s' h' => by
        rw [next_closed h']
        exact (h'.turn .quoted).put (by omega)
      have := run_e l _ _ _ h2 ho' (by simp; omega) (by omega)
      subst e
      refine At.more (by simpa using this) (by simp; omega)
    · rw [if_neg e] at ha ⊢
      simp only [List.length_cons] at ha
      rw [feed_cons h.fault]
      have h1 : At .quoted (c ++ [x]) r rs n w (a + 1) (s.step x) := h.step (by omega) fun s' h' => by
        rw [next_quoted h']
        unfold RS.quoted
        rw [if_neg e, if_neg (by rw [hx]; decide)]
        exact h'.put (by omega)
      have := run_e l _ _ _ h1 ho' (by simp; omega) (by omega)
      refine At.more (by simpa using this) (by simp; omega)
theorem spec_no {x : UInt8} (h : spec x = false) : x ≠ 44 ∧ x ≠ 34 ∧ x ≠ 13 ∧ x ≠ 10 ∧ x ≠ 9 := by
  refine ⟨?_, ?_, ?_, ?_, ?_⟩ <;> rintro rfl <;> exact absurd h (by decide)
theorem plain_put (x : UInt8) (h : spec x = false) (ho : okB x = true) (s : RS) : s.plain x = s.put x := by
  obtain ⟨h1, h2, h3, h4, h5⟩ := spec_no h
  unfold RS.plain
  rw [if_neg h1, if_neg h3, if_neg h4, if_neg h2, if_neg (by rintro (e | e); exact h5 e; rw [ho] at e; cases e)]
theorem run_p : ∀ (l : List UInt8) (c : List UInt8) (a : Nat) (s : RS), At .plain c r rs n w a s → (∀ x ∈ l, okB x = true) → (∀ x ∈ l, spec x = false) → c.length + l.length ≤ 4096 → a + l.length ≤ 262144 →
    At .plain (c ++ l) r rs n w (a + l.length) (s.feed l)
  | [], c, a, s, h, _, _, _, _ => by simpa [RS.feed] using h
  | x :: l, c, a, s, h, ho, hp, hl, ha => by
    simp only [List.length_cons] at hl ha
    rw [feed_cons h.fault]
    have h1 : At .plain (c ++ [x]) r rs n w (a + 1) (s.step x) := h.step (by omega) fun s' h' => by
      rw [next_plain h', plain_put x (hp x List.mem_cons_self) (ho x List.mem_cons_self)]
      exact h'.put (by omega)
    have := run_p l _ _ _ h1 (fun y hy => ho y (List.mem_cons_of_mem _ hy)) (fun y hy => hp y (List.mem_cons_of_mem _ hy)) (by simp; omega) (by omega)
    refine At.more (by simpa using this) (by simp; omega)
/-- a cell stands, its end to come -/
structure EndC (c : List UInt8) (r : List (List UInt8)) (rs : Rows) (n w a : Nat) (s : RS) : Prop where
  at_ : ∃ m, At m c r rs n w a s ∧ (m = .plain ∨ m = .closed ∨ ((m = .fresh ∨ m = .start) ∧ c = [] ∧ n ≠ 4096))
theorem cell_run {m : Md} {c : List UInt8} {a : Nat} {s : RS} (h : At m [] r rs n w a s) (hm : m = .fresh ∨ m = .start) (hn : n ≠ 4096) (ho : ∀ x ∈ c, okB x = true) (hl : c.length ≤ 4096) (ha : a + (cellO c).length ≤ 262144) :
    EndC c r rs n w (a + (cellO c).length) (s.feed (cellO c)) := by
  unfold cellO at ha ⊢
  by_cases hs : c.any spec = true
  · rw [if_pos hs] at ha ⊢
    simp only [List.length_cons, List.length_append, List.length_nil] at ha
    rw [feed_cons h.fault]
    have h1 : At .quoted [] r rs n w (a + 1) (s.step 34) := h.step (by omega) fun s' h' => by
      rw [next_beg h' hm hn]
      exact ⟨rfl, h'.cell, h'.row, h'.rows, h'.count, h'.width, h'.fault, h'.all⟩
    have h2 := run_e c [] _ _ h1 ho (by simpa using hl) (by omega)
    rw [feed_snoc _ _ _ h2.fault]
    have h3 : At .closed ([] ++ c) r rs n w (a + 1 + (esc c).length + 1) (RS.step ((s.step 34).feed (esc c)) 34) := h2.step (by omega) fun s' h' => by
      rw [next_quoted h']
      exact h'.turn .closed
    exact ⟨.closed, At.more (by simpa using h3) (by simp; omega), .inr (.inl rfl)⟩
  · rw [if_neg hs] at ha ⊢
    have hs' : ∀ x ∈ c, spec x = false := fun x hx => by
      have := hs
      rw [Bool.not_eq_true, List.any_eq_false] at this
      simpa using this x hx
    cases c with
    | nil => exact ⟨m, by simpa [RS.feed] using h, .inr (.inr ⟨hm, rfl, hn⟩)⟩
    | cons x c =>
      simp only [List.length_cons] at ha hl
      have hx := hs' x List.mem_cons_self
      obtain ⟨_, h34, _⟩ := spec_no hx
      rw [feed_cons h.fault]
      have h1 : At .plain ([] ++ [x]) r rs n w (a + 1) (s.step x) := h.step (by omega) fun s' h' => by
        rw [next_beg h' hm hn]
        unfold RS.start
        rw [if_neg h34, plain_put x hx (ho x List.mem_cons_self)]
        exact (h'.turn .plain).put (by decide)
      have h2 := run_p c _ _ _ h1 (fun y hy => ho y (List.mem_cons_of_mem _ hy)) (fun y hy => hs' y (List.mem_cons_of_mem _ hy)) (by simp; omega) (by omega)
      exact ⟨.plain, At.more (by simpa using h2) (by simp; omega), .inl rfl⟩
theorem EndC.comma {c : List UInt8} {a : Nat} {s : RS} (h : EndC c r rs n w a s) (hr : r.length < 63) (ha : a < 262144) : At .start [] (r ++ [c]) rs n w (a + 1) (s.step 44) := by
  obtain ⟨m, hA, hm⟩ := h.at_
  refine hA.step ha fun s' h' => ?_
  rcases hm with rfl | rfl | ⟨hm, rfl, hn⟩
  · rw [next_plain h']; exact h'.comma hr
  · rw [next_closed h']; exact h'.comma hr
  · rw [next_beg h' hm hn]; exact (h'.turn .plain).comma hr
theorem at_cr {m : Md} {c : List UInt8} {a : Nat} {s : RS} (h : At m c r rs n w a s) : At .back [] (r ++ [c]) rs n w a s.cr :=
  ⟨rfl, rfl, by show s.row ++ [s.cell] = _; rw [h.row, h.cell], h.rows, h.count, h.width, h.fault, h.all⟩
theorem EndC.cr {c : List UInt8} {a : Nat} {s : RS} (h : EndC c r rs n w a s) (ha : a < 262144) : At .back [] (r ++ [c]) rs n w (a + 1) (s.step 13) := by
  obtain ⟨m, hA, hm⟩ := h.at_
  refine hA.step ha fun s' h' => ?_
  rcases hm with rfl | rfl | ⟨hm, rfl, hn⟩
  · rw [next_plain h']; exact at_cr h'
  · rw [next_closed h']; exact at_cr h'
  · rw [next_beg h' hm hn]; exact at_cr (h'.turn .plain)
theorem tail_run : ∀ (l : List (List UInt8)) (c : List UInt8) (r : List (List UInt8)) (a : Nat) (s : RS), EndC c r rs n w a s → n ≠ 4096 → (∀ d ∈ l, d.length ≤ 4096 ∧ ∀ x ∈ d, okB x = true) → r.length + l.length < 64 → a + (tailO l).length ≤ 262144 →
    ∃ c' r', r' ++ [c'] = r ++ (c :: l) ∧ EndC c' r' rs n w (a + (tailO l).length) (s.feed (tailO l))
  | [], c, r, a, s, h, _, _, _, _ => ⟨c, r, rfl, by simpa [tailO, RS.feed] using h⟩
  | d :: l, c, r, a, s, h, hn, hd, hr, ha => by
    simp only [tailO, List.length_cons, List.length_append] at hr ha ⊢
    have hf : s.fault = none := by obtain ⟨m, hA, _⟩ := h.at_; exact hA.fault
    have h1 := h.comma (by omega) (by omega)
    obtain ⟨d1, d2⟩ := hd d List.mem_cons_self
    have h2 := cell_run h1 (.inr rfl) hn d2 d1 (by omega)
    obtain ⟨c', r', e, h3⟩ := tail_run l d (r ++ [c]) _ _ h2 hn (fun y hy => hd y (List.mem_cons_of_mem _ hy)) (by simp; omega) (by omega)
    refine ⟨c', r', by rw [e]; simp, ?_⟩
    rw [feed_cons hf, feed_app]
    rw [show a + ((cellO d).length + (tailO l).length + 1) = a + 1 + (cellO d).length + (tailO l).length by omega]
    exact h3
end
theorem row_run {rs : Rows} {n w a : Nat} {s : RS} (r : List (List UInt8)) (h : At .fresh [] [] rs n w a s) (hn : n < 4096) (hw : n = 0 ∨ w = r.length) (hr : RowOk r.length r) (ha : a + (rowO r).length ≤ 262144) :
    At .fresh [] [] (rs ++ [r]) (n + 1) r.length (a + (rowO r).length) (s.feed (rowO r)) := by
  unfold rowO at ha ⊢
  simp only [List.length_append, List.length_cons, List.length_nil] at ha ⊢
  cases r with
  | nil => exact absurd hr.pos (by simp)
  | cons c l =>
    have hcs := hr.cells
    obtain ⟨c1, c2⟩ := hcs c List.mem_cons_self
    have hsz : (cellsO (c :: l)).length = (cellO c).length + (tailO l).length := by show (cellO c ++ tailO l).length = _; simp
    rw [hsz] at ha
    have h1 := cell_run h (.inl rfl) (by omega) c2 c1 (by omega)
    have hlen := hr.few
    simp only [List.length_cons] at hlen
    obtain ⟨c', r', e, h2⟩ := tail_run l c [] _ _ h1 (by omega) (fun y hy => hcs y (List.mem_cons_of_mem _ hy)) (by simp; omega) (by omega)
    have h2f : ((s.feed (cellO c)).feed (tailO l)).fault = none := by obtain ⟨m, hA, _⟩ := h2.at_; exact hA.fault
    have h3 := h2.cr (by omega)
    rw [e] at h3
    have h4 : At .fresh [] [] (rs ++ [c :: l]) (n + 1) (c :: l).length (a + (cellO c).length + (tailO l).length + 1 + 1) (RS.step (RS.step ((s.feed (cellO c)).feed (tailO l)) 13) 10) := h3.step (by omega) fun s' h' => by
      rw [next_back h']
      show At .fresh _ _ _ _ _ _ (s'.endRow s'.ml s'.mc)
      have hrow : s'.row = c :: l := h'.row
      have hwid : s'.widen.width = (c :: l).length ∧ s'.widen.row = s'.row ∧ s'.widen.rows = s'.rows ∧ s'.widen.count = s'.count ∧ s'.widen.fault = s'.fault ∧ s'.widen.all = s'.all ∧ s'.widen.cell = s'.cell := by
        unfold RS.widen
        by_cases h0 : s'.count = 0
        · rw [if_pos h0]; exact ⟨by show s'.row.length = _; rw [hrow], rfl, rfl, rfl, rfl, rfl, rfl⟩
        · rw [if_neg h0]
          refine ⟨?_, rfl, rfl, rfl, rfl, rfl, rfl⟩
          rw [h'.width]
          rcases hw with e | e
          · rw [h'.count] at h0; exact absurd e h0
          · exact e
      obtain ⟨w1, w2, w3, w4, w5, w6, w7⟩ := hwid
      unfold RS.endRow
      rw [if_pos (by rw [w1, w2, hrow])]
      exact ⟨rfl, by show s'.widen.cell = _; rw [w7, h'.cell], rfl, by show s'.widen.rows ++ [s'.widen.row] = _; rw [w3, w2, h'.rows, hrow], by show s'.widen.count + 1 = _; rw [w4, h'.count], w1, by show s'.widen.fault = _; rw [w5, h'.fault], by show s'.widen.all ≤ _; rw [w6]; exact h'.all⟩
    have e2 : s.feed (cellsO (c :: l) ++ [13, 10]) = RS.step (RS.step ((s.feed (cellO c)).feed (tailO l)) 13) 10 := by
      show s.feed ((cellO c ++ tailO l) ++ [13, 10]) = _
      rw [feed_app, feed_app, feed_cons h2f, feed_cons h3.fault]; rfl
    rw [e2, hsz]
    exact h4.more (by omega)
theorem rows_run : ∀ (l rs : Rows) (n w a : Nat) (s : RS), At .fresh [] [] rs n w a s → n + l.length ≤ 4096 → (∀ r ∈ l, RowOk (l.headD []).length r) → (n = 0 ∨ l = [] ∨ w = (l.headD []).length) → a + (textO l).length ≤ 262144 →
    ∃ w', At .fresh [] [] (rs ++ l) (n + l.length) w' (a + (textO l).length) (s.feed (textO l))
  | [], rs, n, w, a, s, h, _, _, _, _ => ⟨w, by simpa [textO, RS.feed] using h⟩
  | r :: l, rs, n, w, a, s, h, hn, hr, hw, ha => by
    simp only [textO, List.length_cons, List.length_append, List.headD_cons] at hn hr hw ha ⊢
    have h1 := row_run r h (by omega) (by rcases hw with e | e | e; exact .inl e; cases e; exact .inr e) (hr r List.mem_cons_self) (by omega)
    have hh : ∀ q ∈ l, RowOk (l.headD []).length q := fun q hq => by
      have : RowOk r.length q := hr q (List.mem_cons_of_mem _ hq)
      cases l with
      | nil => cases hq
      | cons q' l =>
        have h' : RowOk r.length q' := hr q' (List.mem_cons_of_mem _ List.mem_cons_self)
        simp only [List.headD_cons]
        rw [h'.wid]; exact this
    obtain ⟨w', h2⟩ := rows_run l _ _ _ _ _ h1 (by omega) hh (by
      cases l with
      | nil => exact .inr (.inl rfl)
      | cons q' l =>
        have h' : RowOk r.length q' := hr q' (List.mem_cons_of_mem _ List.mem_cons_self)
        exact .inr (.inr h'.wid.symm)) (by omega)
    refine ⟨w', ?_⟩
    rw [feed_app]
    rw [show n + (l.length + 1) = n + 1 + l.length by omega, show a + ((rowO r).length + (textO l).length) = a + (rowO r).length + (textO l).length by omega]
    simpa using h2
theorem parse_text (rs : Rows) (h : checkO rs = none) (hl : (textO rs).length ≤ 262144) : parseO (textO rs) = (rs, none) := by
  obtain ⟨h1, h2⟩ := (checkO_none rs).1 h
  obtain ⟨w', h3⟩ := rows_run rs [] 0 0 0 RS.new ⟨rfl, rfl, rfl, rfl, rfl, rfl, rfl, Nat.le_refl _⟩ (by omega) h2 (.inl rfl) (by omega)
  generalize hs : RS.new.feed (textO rs) = s at h3
  have hfin : RS.fin { s with rows := [] } = { s with rows := [] } := by
    unfold RS.fin
    rw [if_pos h3.fault]
    unfold RS.over
    show (match s.md with | .fresh => _ | .start => _ | .plain => _ | .closed => _ | .quoted => _ | .back => _) = _
    rw [h3.md]
  unfold parseO
  rw [hs, if_neg (by rw [h3.fault]; simp), hfin, if_neg (by show ¬ s.fault ≠ none; rw [h3.fault]; simp), h3.rows]
  simp
theorem printO_ok (rs : Rows) (t : List UInt8) (h : printO rs = (t, none)) : checkO rs = none ∧ t = textO rs ∧ (textO rs).length ≤ 262144 := by
  unfold printO at h
  cases hc : checkO rs with
  | some f => rw [hc] at h; simp at h
  | none =>
    rw [hc] at h
    simp only [Option.isSome_none, Bool.false_eq_true, if_false] at h
    split at h
    · cases h
    · rename_i hl
      cases h
      exact ⟨rfl, rfl, by omega⟩
/-- what is printed is read back -/
theorem back_print (rs : Rows) (t : List UInt8) (h : printO rs = (t, none)) : parseO t = (rs, none) := by
  obtain ⟨h1, rfl, h3⟩ := printO_ok rs t h
  exact parse_text rs h1 h3
end Go.Proofs.YtappphffbnkloaaGreatDoor.Sht
set_option linter.unusedVariables false
set_option linter.unusedSimpArgs false
namespace Go.Proofs.YtappphffbnkloaaGreatDoor.Sht
open Go Go.RowKit
abbrev RW : TypeId := 144
theorem sizeB : (Tryz.prog.info? 142).map (·.size) = some 2 := by kernel_rfl
theorem liesB : liesAt Tryz.prog Tryz.prog.depth RW (2 / Tryz.prog.cellsOf RW) 0 142 1 = true := by kernel_rfl
abbrev BdAt (B b : Nat) (p : Value) (bs : List Value) (w : World) : Prop := Lib.BuilderAt RW 5 B b p bs w
abbrev IsBd (B b : Nat) (bs : List Value) (w : World) : Prop := Lib.IsBuilder RW 5 B b bs w
section
variable {B b : Nat} {bs : List Value} {w : World}
set_option maxHeartbeats 1000000 in
set_option maxRecDepth 100000 in
theorem bcopy_used (h0 : w.cell? ⟨b, 0, none⟩ = some (.pointer (some ⟨b, 0, none⟩))) :
    Calls Tryz.prog 95 #[.pointer (some ⟨b, 0, none⟩)] w fun e w' => e = .returned (.tuple #[]) ∧ w' = w := by
  obtain ⟨j, hj, _⟩ := Option.map_eq_some_iff.1 sizeB
  go_enter Tryz.func95, Tryz.ntmps95
  go_wp2
  rw [Lib.run_neq_ptr_same w _ Tryz.underlying140 hj]
  go_wp2
  go_end0
  exact ⟨rfl, rfl⟩
set_option maxHeartbeats 1000000 in
set_option maxRecDepth 100000 in
theorem bcopy_fresh (h0 : w.cell? ⟨b, 0, none⟩ = some (.pointer none)) (hsh : w.shape? b = some (RW, 2)) (hfz : w.frozen? ⟨b, 0, none⟩ = false) :
    Calls Tryz.prog 95 #[.pointer (some ⟨b, 0, none⟩)] w fun e w' => e = .returned (.tuple #[]) ∧ w' = w.setCell ⟨b, 0, none⟩ (.pointer (some ⟨b, 0, none⟩)) := by
  obtain ⟨j, hj, hjs⟩ := Option.map_eq_some_iff.1 sizeB
  go_enter Tryz.func95, Tryz.ntmps95
  go_wp2
  rw [Lib.run_to_unsafe w ⟨b, 0, none⟩ Tryz.underlying140 Tryz.underlying112 hj (by rw [hjs]; decide) hsh (Nat.zero_lt_succ 1)]
  simp only [Result.andThen]
  rw [Oper.upon_value]
  go_wp2
  rw [run_callFunc_extern Tryz.func107 (by kernel_rfl) (by kernel_rfl) (by kernel_rfl) (e := Extern.AbiNoEscape.same) (by kernel_rfl)]
  rw [Lib.run_noEscape]
  simp only [Result.andThen]
  rw [Oper.upon_value]
  go_wp2
  rw [Lib.run_from_unsafe w ⟨b, 0, none⟩ Tryz.underlying112 Tryz.underlying140 hj hsh liesB]
  simp only [Result.andThen]
  rw [Oper.upon_value]
  go_wp2
  go_end0
  exact ⟨rfl, rfl⟩
theorem bcopy (h : IsBd B b bs w) : Calls Tryz.prog 95 #[.pointer (some ⟨b, 0, none⟩)] w fun e w' => e = .returned (.tuple #[]) ∧ BdAt B b (.pointer (some ⟨b, 0, none⟩)) bs w' ∧ Below B w w' := by
  rcases h with h | h
  · refine (bcopy_fresh h.cell0 h.shape h.frozen0).mono ?_
    rintro e w' ⟨rfl, rfl⟩
    exact ⟨rfl, h.used _, (Below.refl B w).setCell (p := ⟨b, 0, none⟩) h.1 _⟩
  · refine (bcopy_used h.cell0).mono ?_
    rintro e w' ⟨rfl, rfl⟩
    exact ⟨rfl, h, Below.refl B _⟩
set_option maxHeartbeats 1000000 in
set_option maxRecDepth 100000 in
theorem blen (h : IsBd B b bs w) : Calls Tryz.prog 78 #[.pointer (some ⟨b, 0, none⟩)] w fun e w' => e = .returned (.int .i64 bs.length) ∧ w = w' := by
  obtain ⟨p, hB, v, hbk, hown, hne⟩ : ∃ p, BdAt B b p bs w := by
    rcases h with h | h
    · exact ⟨_, h⟩
    · exact ⟨_, h⟩
  obtain ⟨ao, cap, rfl⟩ : ∃ ao cap, v = .slice ao bs.length cap := by
    rcases hown.2 with ⟨hv, h0⟩ | ⟨g, cap, cur, hv, _⟩
    · exact ⟨none, 0, by rw [hv, h0]⟩
    · exact ⟨_, _, hv⟩
  have c1 : w.cell? ⟨b, 1, none⟩ = some (.slice ao bs.length cap) := by rw [Lib.cell_of_heap hbk]; rfl
  go_enter Tryz.func78, Tryz.ntmps78
  go_wp2
  go_ret
  exact ⟨rfl, rfl⟩
set_option maxHeartbeats 2000000 in
set_option maxRecDepth 100000 in
theorem bbyte (c : Int) (h : IsBd B b bs w) (hlen : bs.length + 1 ≤ 140737488355328) (hBw : B ≤ w.heap.size) :
    Calls Tryz.prog 92 #[.pointer (some ⟨b, 0, none⟩), .int .u8 c] w fun e w' => e = .returned .nilIface ∧ IsBd B b (bs ++ [.int .u8 c]) w' ∧ Below B w w' := by
  obtain ⟨i0, hi, hz0, hz1, hz2⟩ := info_parts info5
  go_enter Tryz.func92, Tryz.ntmps92
  go_wp2_with (go_at_call 95; refine (bcopy h).mono ?_)
  rintro e w1 ⟨rfl, h1, hb1⟩
  obtain ⟨hB, v, hbk, hown, hne⟩ := h1
  have c0 : w1.cell? ⟨b, 0, none⟩ = some (.pointer (some ⟨b, 0, none⟩)) := by rw [Lib.cell_of_heap hbk]; rfl
  have c1 : w1.cell? ⟨b, 1, none⟩ = some v := by rw [Lib.cell_of_heap hbk]; rfl
  go_wp2_with (at_builtin; refine wpList_append_own _ rfl _ _ 37 rfl B 5 i0 (.int .u8 0) 1 1 Tryz.underlying37 hi hz0 hz1 hz2 rfl (by decide) _ _ _ rfl (hown.alloc _) ⟨w1.heap.size, 0, none⟩ 1 1 [.int .u8 c] rfl rfl ?c1 ?c2 ?c3 ?c4 ?c5 ?_)
  case c1 =>
    intro j u hj
    match j, hj with
    | 0, hj => simp at hj; subst hj; simp [Addr.add]
  case c2 => intro u hu; simp at hu; subst hu; rfl
  case c3 => unfold maxLen; omega
  case c4 => omega
  case c5 => have := hb1.size; simp; omega
  intro v' w2 hown' hgrow _
  have hlt : b < w1.heap.size := (Array.getElem?_eq_some_iff.1 hbk).1
  have hb2 : w2.heap[b]? = some (.cells #[.pointer (some ⟨b, 0, none⟩), v] RW (0, 0)) := by
    rw [hgrow.block b (by simp; omega) (fun e => hne e.symm), Lib.alloc_old w1 _ b hlt]
    exact hbk
  have d0 : w2.cell? ⟨b, 0, none⟩ = some (.pointer (some ⟨b, 0, none⟩)) := by rw [Lib.cell_of_heap hb2]; rfl
  have d1 : w2.cell? ⟨b, 1, none⟩ = some v := by rw [Lib.cell_of_heap hb2]; rfl
  have f1 : w2.frozen? ⟨b, 1, none⟩ = false := Lib.frozen_of_heap hb2 1
  obtain ⟨g, cap, rfl⟩ : ∃ g cap, v' = .slice (some ⟨g, 0, none⟩) (bs.length + 1) cap := by
    rcases hown'.2 with ⟨_, h0⟩ | ⟨g, cap, cur, hv, _⟩
    · omega
    · exact ⟨g, cap, hv⟩
  go_wp2
  go_ret
  refine ⟨rfl, .inr ?_, ?_⟩
  · exact Lib.BuilderAt.put (T := RW) (e := 5) hB hb2 (bs' := bs ++ [.int .u8 c]) (by simpa using hown') (by decide)
  · exact ((hb1.alloc (by have := hb1.size; omega) _).grown hgrow (by have := hb1.size; simp; omega) (fun k hk => (hown.lt k hk).1)).setCell (p := ⟨b, 1, none⟩) hB _
set_option maxHeartbeats 2000000 in
set_option maxRecDepth 100000 in
theorem bstr (s : ByteArray) (h : IsBd B b bs w) (hlen : bs.length + s.size ≤ 140737488355328) (hBw : B ≤ w.heap.size) :
    Calls Tryz.prog 77 #[.pointer (some ⟨b, 0, none⟩), .string s] w fun e w' => e = .returned (.tuple #[.int .i64 s.size, .nilIface]) ∧ IsBd B b (bs ++ Lib.strCells s) w' ∧ Below B w w' := by
  obtain ⟨i0, hi, hz0, hz1, hz2⟩ := info_parts info5
  go_enter Tryz.func77, Tryz.ntmps77
  go_wp2_with (go_at_call 95; refine (bcopy h).mono ?_)
  rintro e w1 ⟨rfl, h1, hb1⟩
  obtain ⟨hB, v, hbk, hown, hne⟩ := h1
  have c0 : w1.cell? ⟨b, 0, none⟩ = some (.pointer (some ⟨b, 0, none⟩)) := by rw [Lib.cell_of_heap hbk]; rfl
  have c1 : w1.cell? ⟨b, 1, none⟩ = some v := by rw [Lib.cell_of_heap hbk]; rfl
  go_wp2_with (at_builtin; refine Lib.wpList_append_own_string _ rfl _ _ 37 9 rfl B 5 i0 Tryz.underlying37 Tryz.underlying9 hi hz0 hz1 hz2 _ _ _ rfl hown s rfl ?c3 ?c4 ?c5 ?_)
  case c3 => unfold maxLen; omega
  case c4 => omega
  case c5 => have := hb1.size; omega
  intro v' w2 hown' hgrow _
  have hlt : b < w1.heap.size := (Array.getElem?_eq_some_iff.1 hbk).1
  have hb2 : w2.heap[b]? = some (.cells #[.pointer (some ⟨b, 0, none⟩), v] RW (0, 0)) := by
    rw [hgrow.block b hlt (fun e => hne e.symm)]
    exact hbk
  have d0 : w2.cell? ⟨b, 0, none⟩ = some (.pointer (some ⟨b, 0, none⟩)) := by rw [Lib.cell_of_heap hb2]; rfl
  have d1 : w2.cell? ⟨b, 1, none⟩ = some v := by rw [Lib.cell_of_heap hb2]; rfl
  have f1 : w2.frozen? ⟨b, 1, none⟩ = false := Lib.frozen_of_heap hb2 1
  obtain ⟨ao, n', cap, rfl⟩ : ∃ ao n' cap, v' = .slice ao n' cap := by
    rcases hown'.2 with ⟨hv, _⟩ | ⟨g, cap, cur, hv, _⟩
    · exact ⟨_, _, _, hv⟩
    · exact ⟨_, _, _, hv⟩
  go_wp2
  go_ret2
  refine ⟨rfl, .inr ?_, ?_⟩
  · exact Lib.BuilderAt.put (T := RW) (e := 5) hB hb2 (bs' := bs ++ Lib.strCells s) (by simpa [Lib.strCells_length] using hown') (by decide)
  · exact (hb1.grown hgrow (by have := hb1.size; omega) (fun k hk => (hown.lt k hk).1)).setCell (p := ⟨b, 1, none⟩) hB _
theorem cellsByte : Tryz.prog.cellsOf 5 = 1 := by kernel_rfl
set_option maxHeartbeats 2000000 in
set_option maxRecDepth 100000 in
theorem bget (l : List UInt8) (h : IsBd B b (Lib.byteCells l) w) (hBw : B ≤ w.heap.size) :
    Calls Tryz.prog 79 #[.pointer (some ⟨b, 0, none⟩)] w fun e w' => e = .returned (.string ⟨l.toArray⟩) ∧ Below B w w' := by
  obtain ⟨p, hB, v, hbk, hown, hne⟩ : ∃ p, BdAt B b p (Lib.byteCells l) w := by
    rcases h with h | h
    · exact ⟨_, h⟩
    · exact ⟨_, h⟩
  have hlt : b < w.heap.size := (Array.getElem?_eq_some_iff.1 hbk).1
  rw [Lib.byteCells_length] at hown
  by_cases h0 : l = []
  · subst h0
    have hUS := fun (W : World) (q : Option Addr) => Lib.run_unsafeString_none (P := Tryz.prog) W 171 3 9 q
    rcases hown.2 with ⟨rfl, _⟩ | ⟨g, cap, cur, rfl, hbg, hg, _, _, _, _⟩
    · have c1 : w.drew.cell? ⟨b, 1, none⟩ = some (.slice none 0 0) := by
        have : w.drew.heap[b]? = some (.cells #[p, .slice none 0 0] RW (0, 0)) := hbk
        rw [Lib.cell_of_heap this]; rfl
      have hSD : (Builtin.unsafeSliceData_ #[37] 171 #[.slice none 0 0]).run Tryz.prog w.drew = .ok (.pointer none) w.drew := rfl
      go_enter Tryz.func79, Tryz.ntmps79
      go_wp2
      go_region
      all_goals (go_wp2; go_ret; exact ⟨rfl, Below.drew (Below.refl B w)⟩)
    · by_cases hc0 : cap = 0
      · subst hc0
        have c1 : w.drew.cell? ⟨b, 1, none⟩ = some (.slice (some ⟨g, 0, none⟩) 0 0) := by
          have : w.drew.heap[b]? = some (.cells #[p, .slice (some ⟨g, 0, none⟩) 0 0] RW (0, 0)) := hbk
          rw [Lib.cell_of_heap this]; rfl
        have hSD : (Builtin.unsafeSliceData_ #[37] 171 #[.slice (some ⟨g, 0, none⟩) 0 0]).run Tryz.prog w.drew = .ok (.pointer (some ⟨w.drew.heap.size, 0, none⟩)) (w.drew.alloc (.view ⟨g, 0, none⟩ 5)) :=
          Lib.run_unsafeSliceData_zero w.drew _ _ 5 Tryz.underlying171 ⟨g, 0, none⟩ 0 (5, cur.size) (by have hg' : w.drew.heap[g]? = some (.cells cur 5 (0, 0)) := hg; simp [World.shape?, hg'])
        have c2 : (w.drew.alloc (.view ⟨g, 0, none⟩ 5)).cell? ⟨b, 1, none⟩ = some (.slice (some ⟨g, 0, none⟩) 0 0) := by
          have : (w.drew.alloc (.view ⟨g, 0, none⟩ 5)).heap[b]? = _ := (Lib.alloc_old w.drew _ b hlt).trans hbk
          rw [Lib.cell_of_heap this]; rfl
        have c3 : (w.alloc (.view ⟨g, 0, none⟩ 5)).drew.cell? ⟨b, 1, none⟩ = some (.slice (some ⟨g, 0, none⟩) 0 0) := c2
        have c0 : w.cell? ⟨b, 1, none⟩ = some (.slice (some ⟨g, 0, none⟩) 0 0) := c1
        go_enter Tryz.func79, Tryz.ntmps79
        go_wp2
        go_region
        all_goals (go_wp2; go_ret; exact ⟨rfl, (Below.drew (Below.refl B w)).alloc hBw _⟩)
      · have c1 : w.drew.cell? ⟨b, 1, none⟩ = some (.slice (some ⟨g, 0, none⟩) 0 cap) := by
          have : w.drew.heap[b]? = some (.cells #[p, .slice (some ⟨g, 0, none⟩) 0 cap] RW (0, 0)) := hbk
          rw [Lib.cell_of_heap this]; rfl
        have hSD : (Builtin.unsafeSliceData_ #[37] 171 #[.slice (some ⟨g, 0, none⟩) 0 cap]).run Tryz.prog w.drew = .ok (.pointer (some ⟨g, 0, none⟩)) w.drew :=
          Lib.run_unsafeSliceData_row _ _ _ _ _ _ hc0
        clear hc0
        go_enter Tryz.func79, Tryz.ntmps79
        go_wp2
        go_region
        all_goals (go_wp2; go_ret; exact ⟨rfl, Below.drew (Below.refl B w)⟩)
  · have hl0 : l.length ≠ 0 := by simpa using h0
    obtain ⟨g, cap, cur, rfl, hbg, hg, hnc, hcm, hcs, htake⟩ : ∃ g cap cur, v = .slice (some ⟨g, 0, none⟩) l.length cap ∧ B ≤ g ∧ w.heap[g]? = some (.cells cur 5 (0, 0)) ∧ l.length ≤ cap ∧ cap ≤ maxLen ∧ cur.size = cap * 1 ∧ cur.toList.take (l.length * 1) = Lib.byteCells l := by
      rcases hown.2 with ⟨_, hz⟩ | ⟨g, cap, cur, hv, r⟩
      · exact absurd hz hl0
      · exact ⟨g, cap, cur, hv, r⟩
    have c1 : w.drew.cell? ⟨b, 1, none⟩ = some (.slice (some ⟨g, 0, none⟩) l.length cap) := by
      have : w.drew.heap[b]? = some (.cells #[p, .slice (some ⟨g, 0, none⟩) l.length cap] RW (0, 0)) := hbk
      rw [Lib.cell_of_heap this]; rfl
    have hSD : (Builtin.unsafeSliceData_ #[37] 171 #[.slice (some ⟨g, 0, none⟩) l.length cap]).run Tryz.prog w.drew = .ok (.pointer (some ⟨g, 0, none⟩)) w.drew :=
      Lib.run_unsafeSliceData_row _ _ _ _ _ _ (by omega)
    have hUS : (Builtin.unsafeString_ #[171, 3] 9 #[.pointer (some ⟨g, 0, none⟩), .int .i64 l.length]).run Tryz.prog w.drew = .ok (.string ⟨l.toArray⟩) (w.drew.freeze ⟨g, 0, none⟩ l.length) := by
      refine Lib.run_unsafeString_row w.drew 171 3 9 5 Tryz.underlying171 cellsByte g cur.size (by have hg' : w.drew.heap[g]? = some (.cells cur 5 (0, 0)) := hg; simp [World.shape?, hg']) l h0 (by omega) (by unfold maxLen at hcm; omega) ?_
      intro j x hx
      exact hown.cells (g := g) rfl j (.int .u8 x.toNat) (by simp [Lib.byteCells, hx])
    go_enter Tryz.func79, Tryz.ntmps79
    go_wp2
    go_region
    all_goals (go_wp2; go_ret; exact ⟨rfl, Lib.below_freeze (Below.drew (Below.refl B w)) (p := ⟨g, 0, none⟩) hbg _⟩)
end
end Go.Proofs.YtappphffbnkloaaGreatDoor.Sht
set_option linter.unusedVariables false
set_option linter.unusedSimpArgs false
namespace Go.Proofs.YtappphffbnkloaaGreatDoor.Sht
open Go.RowKit Go.Proofs.YtappphffbnkloaaGreatDoorW.PrintWords

abbrev ZC : ByteArray := ⟨#[44, 34, 13, 10, 9]⟩
theorem enc_cases (r : Int) (hv : Utf8.valid r = true) (h128 : 128 ≤ r) : (∃ a b : UInt8, Utf8.encode r = ⟨#[a, b]⟩ ∧ 128 ≤ b.toNat) ∨ (∃ a b c : UInt8, Utf8.encode r = ⟨#[a, b, c]⟩ ∧ 128 ≤ c.toNat) ∨ (∃ a b c d : UInt8, Utf8.encode r = ⟨#[a, b, c, d]⟩ ∧ 128 ≤ d.toNat) := by
  have hc : ¬ r.toNat < 128 := by omega
  unfold Utf8.encode
  simp only [hv, if_true, hc, if_false]
  split
  · refine .inl ⟨_, _, rfl, ?_⟩
    show 128 ≤ (UInt8.ofNat (128 + r.toNat % 64)).toNat
    simp; omega
  · split
    · refine .inr (.inl ⟨_, _, _, rfl, ?_⟩)
      show 128 ≤ (UInt8.ofNat (128 + r.toNat % 64)).toNat
      simp; omega
    · refine .inr (.inr ⟨_, _, _, _, rfl, ?_⟩)
      show 128 ≤ (UInt8.ofNat (128 + r.toNat % 64)).toNat
      simp; omega
theorem ib_high (s : ByteArray) (c : UInt8) (hs : ∀ b ∈ s.data.toList, b.toNat < 128) (hc : 128 ≤ c.toNat) : Lib.indexByte s.data.toList c = -1 := by
  have : ∀ l : List UInt8, (∀ b ∈ l, b.toNat < 128) → Lib.indexByte l c = -1 := by
    intro l
    induction l with
    | nil => intro _; rfl
    | cons a l ih =>
      intro h
      have ha : (a == c) = false := by
        rw [beq_eq_false_iff_ne]; rintro rfl
        have := h a (List.mem_cons_self ..); omega
      rw [Lib.indexByte, ha, ih (fun b hb => h b (List.mem_cons_of_mem _ hb))]
      simp
  exact this _ hs
theorem quiet_two {P : Program} {f : FuncId} {args : Array Value} {w : World} {a n : Nat} {v : Value}
    (h : Calls P f args (w.drewN (a + n)) fun e w' => e = .returned v ∧ w' = w.drewN (a + n)) :
    Calls P f args (w.drewN (a + n)) fun e w'' => e = .returned v ∧ ∃ m, w'' = w.drewN (a + m) :=
  h.mono fun _ _ ⟨he, hm⟩ => ⟨he, n, hm⟩
theorem below_drawn {w : World} {n : Nat} : Below w.heap.size w (w.drewN n) := Drawn0.below ⟨⟨_, rfl⟩⟩
section
variable (w : World)
set_option maxRecDepth 100000 in
set_option maxHeartbeats 1000000 in
theorem idxr_err : Calls Tryz.prog 115 #[.string ZC, .int .i32 65533] w fun e w' => e = .returned (.int .i64 (-1)) ∧ Below w.heap.size w w' := by
  have hn0 := fun ty => run_next_ascii (P := Tryz.prog) w ZC 0 ty (by decide) (by decide)
  have hn1 := fun ty => run_next_ascii (P := Tryz.prog) w ZC 1 ty (by decide) (by decide)
  have hn2 := fun ty => run_next_ascii (P := Tryz.prog) w ZC 2 ty (by decide) (by decide)
  have hn3 := fun ty => run_next_ascii (P := Tryz.prog) w ZC 3 ty (by decide) (by decide)
  have hn4 := fun ty => run_next_ascii (P := Tryz.prog) w ZC 4 ty (by decide) (by decide)
  have hn5 := run_next_end (P := Tryz.prog) w ZC 5
  go_enter Tryz.func115, Tryz.ntmps115
  go_wp2
  refine wp_loop_rounds 6 ?_
  rw [rounds_succ]
  go_wp2
  rw [rounds_succ]
  go_wp2
  rw [rounds_succ]
  go_wp2
  rw [rounds_succ]
  go_wp2
  rw [rounds_succ]
  go_wp2
  rw [rounds_succ]
  go_wp2
  go_ret
  exact ⟨rfl, (Below.refl _ _).alloc (Nat.le_refl _) _⟩
set_option maxRecDepth 100000 in
set_option maxHeartbeats 1000000 in
theorem idxr_bad (r : Int) (h : 128 ≤ r) (h2 : r ≠ 65533) (hv : Lib.validRune r = false) : Calls Tryz.prog 115 #[.string ZC, .int .i32 r] w fun e w' => e = .returned (.int .i64 (-1)) ∧ Below w.heap.size w w' := by
  have h3 : (r == 65533) = false := beq_eq_false_iff_ne.2 h2
  have HV := Lib.hid (fun W => Tryz.utf8_ValidRune r W)
  rw [hv] at HV
  clear h2 hv
  go_enter Tryz.func115, Tryz.ntmps115
  go_wp2_with (go_at_call 129; refine (HV.out _).mono ?_; rintro e w' ⟨rfl, hw⟩; rw [hw])
  go_ret
  exact ⟨rfl, Below.refl _ _⟩
set_option maxRecDepth 100000 in
set_option maxHeartbeats 1000000 in
theorem idxr_2 (r : Int) (h : 128 ≤ r) (h2 : r ≠ 65533) (hv : Lib.validRune r = true) (a b : UInt8) (he : Utf8.encode r = ⟨#[a, b]⟩) (hb : 128 ≤ b.toNat) : Calls Tryz.prog 115 #[.string ZC, .int .i32 r] w fun e w' => e = .returned (.int .i64 (-1)) ∧ Below w.heap.size w w' := by
  have h3 : (r == 65533) = false := beq_eq_false_iff_ne.2 h2
  have HV := Lib.hid (fun W => Tryz.utf8_ValidRune r W)
  rw [hv] at HV
  have HI : Hid (∀ W, Calls Tryz.prog 128 #[.string (ZC.extract 2 5), .int .u8 b.toNat] W fun e w' => e = .returned (.int .i64 (-1)) ∧ w' = W) := by
    intro W
    have := Tryz.strings_IndexByte (ZC.extract 2 5) b.toNat W
    rw [show ((b.toNat : Int)).toNat.toUInt8 = b by simp, ib_high _ _ (by decide) hb] at this
    exact this
  have hx : ((ZC[1].toNat : Int) != (((⟨#[a, b]⟩ : ByteArray)[1]'(show 1 < 2 by decide)).toNat : Int)) = true := bne_iff_ne.2 (by show (34 : Int) ≠ (b.toNat : Int); omega)
  clear h2 hv hb
  go_enter Tryz.func115, Tryz.ntmps115
  go_wp2_with (go_at_call 129; refine (HV.out _).mono ?_; rintro e w' ⟨rfl, hw⟩; rw [hw])
  go_step3
  go_wp2
  refine wp_loop_rounds 1 ?_
  rw [rounds_succ]
  go_wp2
  go_step3
  go_wp2
  go_quiet (fail)
  go_wp2
  go_quiet ((go_at_call 128; exact quiet_two (HI.out _)))
  go_wp2
  go_simp
  go_ret
  exact ⟨rfl, below_drawn⟩
set_option maxRecDepth 100000 in
set_option maxHeartbeats 1000000 in
theorem idxr_3 (r : Int) (h : 128 ≤ r) (h2 : r ≠ 65533) (hv : Lib.validRune r = true) (a b c : UInt8) (he : Utf8.encode r = ⟨#[a, b, c]⟩) (hb : 128 ≤ c.toNat) : Calls Tryz.prog 115 #[.string ZC, .int .i32 r] w fun e w' => e = .returned (.int .i64 (-1)) ∧ Below w.heap.size w w' := by
  have h3 : (r == 65533) = false := beq_eq_false_iff_ne.2 h2
  have HV := Lib.hid (fun W => Tryz.utf8_ValidRune r W)
  rw [hv] at HV
  have HI : Hid (∀ W, Calls Tryz.prog 128 #[.string (ZC.extract 3 5), .int .u8 c.toNat] W fun e w' => e = .returned (.int .i64 (-1)) ∧ w' = W) := by
    intro W
    have := Tryz.strings_IndexByte (ZC.extract 3 5) c.toNat W
    rw [show ((c.toNat : Int)).toNat.toUInt8 = c by simp, ib_high _ _ (by decide) hb] at this
    exact this
  have hx : ((ZC[2].toNat : Int) != (((⟨#[a, b, c]⟩ : ByteArray)[2]'(show 2 < 3 by decide)).toNat : Int)) = true := bne_iff_ne.2 (by show (13 : Int) ≠ (c.toNat : Int); omega)
  clear h2 hv hb
  go_enter Tryz.func115, Tryz.ntmps115
  go_wp2_with (go_at_call 129; refine (HV.out _).mono ?_; rintro e w' ⟨rfl, hw⟩; rw [hw])
  go_step3
  go_wp2
  refine wp_loop_rounds 1 ?_
  rw [rounds_succ]
  go_wp2
  go_step3
  go_wp2
  go_quiet (fail)
  go_wp2
  go_quiet ((go_at_call 128; exact quiet_two (HI.out _)))
  go_wp2
  go_simp
  go_ret
  exact ⟨rfl, below_drawn⟩
set_option maxRecDepth 100000 in
set_option maxHeartbeats 1000000 in
theorem idxr_4 (r : Int) (h : 128 ≤ r) (h2 : r ≠ 65533) (hv : Lib.validRune r = true) (a b c d : UInt8) (he : Utf8.encode r = ⟨#[a, b, c, d]⟩) (hb : 128 ≤ d.toNat) : Calls Tryz.prog 115 #[.string ZC, .int .i32 r] w fun e w' => e = .returned (.int .i64 (-1)) ∧ Below w.heap.size w w' := by
  have h3 : (r == 65533) = false := beq_eq_false_iff_ne.2 h2
  have HV := Lib.hid (fun W => Tryz.utf8_ValidRune r W)
  rw [hv] at HV
  have HI : Hid (∀ W, Calls Tryz.prog 128 #[.string (ZC.extract 4 5), .int .u8 d.toNat] W fun e w' => e = .returned (.int .i64 (-1)) ∧ w' = W) := by
    intro W
    have := Tryz.strings_IndexByte (ZC.extract 4 5) d.toNat W
    rw [show ((d.toNat : Int)).toNat.toUInt8 = d by simp, ib_high _ _ (by decide) hb] at this
    exact this
  have hx : ((ZC[3].toNat : Int) != (((⟨#[a, b, c, d]⟩ : ByteArray)[3]'(show 3 < 4 by decide)).toNat : Int)) = true := bne_iff_ne.2 (by show (10 : Int) ≠ (d.toNat : Int); omega)
  clear h2 hv hb
  go_enter Tryz.func115, Tryz.ntmps115
  go_wp2_with (go_at_call 129; refine (HV.out _).mono ?_; rintro e w' ⟨rfl, hw⟩; rw [hw])
  go_step3
  go_wp2
  refine wp_loop_rounds 1 ?_
  rw [rounds_succ]
  go_wp2
  go_step3
  go_wp2
  go_quiet (fail)
  go_wp2
  go_quiet ((go_at_call 128; exact quiet_two (HI.out _)))
  go_wp2
  go_simp
  go_ret
  exact ⟨rfl, below_drawn⟩
/-- of a rune that is no ASCII IndexRune finds none -/
theorem idxr_high (r : Int) (h : 128 ≤ r) : Calls Tryz.prog 115 #[.string ZC, .int .i32 r] w fun e w' => e = .returned (.int .i64 (-1)) ∧ Below w.heap.size w w' := by
  by_cases h2 : r = 65533
  · subst h2; exact idxr_err w
  cases hv : Lib.validRune r
  · exact idxr_bad w r h h2 hv
  · have hv' : Utf8.valid r = true := by
      rw [validRune_eq]; exact hv
    rcases enc_cases r hv' h with ⟨a, b, he, hb⟩ | ⟨a, b, c, he, hc⟩ | ⟨a, b, c, d, he, hd⟩
    · exact idxr_2 w r h h2 hv a b he hb
    · exact idxr_3 w r h h2 hv a b c he hc
    · exact idxr_4 w r h h2 hv a b c d he hd
theorem decode_cont (s : ByteArray) (pos : Nat) (h : pos < s.size) (ha : 128 ≤ (s[pos]'h).toNat) : pos + (Utf8.decode s pos).2 ≤ s.size ∧ ∀ (j : Nat) (b : UInt8), pos ≤ j → j < pos + (Utf8.decode s pos).2 → s.data.toList[j]? = some b → 128 ≤ b.toNat := by
  have h0 : ∀ (b : UInt8), s.data.toList[pos]? = some b → 128 ≤ b.toNat := by
    intro b hb
    rw [Lib.data_getElem? s pos h] at hb
    cases hb; exact ha
  have hc : ∀ k : Nat, (decide (pos + k < s.size) && (s.get! (pos + k)).toNat / 64 == 2) = true → pos + k < s.size ∧ ∀ (b : UInt8), s.data.toList[pos + k]? = some b → 128 ≤ b.toNat := by
    intro k hk
    rw [Bool.and_eq_true, decide_eq_true_eq, beq_iff_eq] at hk
    refine ⟨hk.1, fun b hb => ?_⟩
    rw [Lib.data_getElem? s (pos + k) hk.1] at hb
    cases hb
    have e : s.get! (pos + k) = s[pos + k]'hk.1 := by simp [ByteArray.get!, getElem!_pos, hk.1]; rfl
    rw [e] at hk
    omega
  have one : ∀ n, n = 1 → pos + n ≤ s.size ∧ ∀ (j : Nat) (b : UInt8), pos ≤ j → j < pos + n → s.data.toList[j]? = some b → 128 ≤ b.toNat := by
    rintro n rfl
    refine ⟨by omega, fun j b j1 j2 hb => ?_⟩
    obtain rfl : j = pos := by omega
    exact h0 b hb
  have hn : ¬ (s.get! (pos + 0)).toNat < 128 := by rw [get_at s pos h]; omega
  simp only [Utf8.decode, hn, if_false]
  split
  · rename_i c
    rw [Bool.and_eq_true] at c
    have c1 := hc 1 c.2
    split
    · refine ⟨by show pos + 2 ≤ _; omega, fun j b j1 j2 hb => ?_⟩
      have j2' : j < pos + 2 := j2
      rcases (by omega : j = pos ∨ j = pos + 1) with rfl | rfl
      · exact h0 b hb
      · exact c1.2 b hb
    · exact one _ rfl
  · split
    · rename_i c
      rw [Bool.and_eq_true, Bool.and_eq_true] at c
      have c1 := hc 1 c.1.2
      have c2 := hc 2 c.2
      split
      · refine ⟨by show pos + 3 ≤ _; omega, fun j b j1 j2 hb => ?_⟩
        have j2' : j < pos + 3 := j2
        rcases (by omega : j = pos ∨ j = pos + 1 ∨ j = pos + 2) with rfl | rfl | rfl
        · exact h0 b hb
        · exact c1.2 b hb
        · exact c2.2 b hb
      · exact one _ rfl
    · split
      · rename_i c
        rw [Bool.and_eq_true, Bool.and_eq_true, Bool.and_eq_true] at c
        have c1 := hc 1 c.1.1.2
        have c2 := hc 2 c.1.2
        have c3 := hc 3 c.2
        split
        · refine ⟨by show pos + 4 ≤ _; omega, fun j b j1 j2 hb => ?_⟩
          have j2' : j < pos + 4 := j2
          rcases (by omega : j = pos ∨ j = pos + 1 ∨ j = pos + 2 ∨ j = pos + 3) with rfl | rfl | rfl | rfl
          · exact h0 b hb
          · exact c1.2 b hb
          · exact c2.2 b hb
          · exact c3.2 b hb
        · exact one _ rfl
      · exact one _ rfl
/-- a world in which the iterator at block b stands at another place -/
def setIt (w : World) (b : Nat) (s : ByteArray) (p : Nat) : World := { w with heap := w.heap.setIfInBounds b (.stringIter s p) }
theorem setIt_size (w : World) (b : Nat) (s : ByteArray) (p : Nat) : (setIt w b s p).heap.size = w.heap.size := by simp [setIt]
theorem setIt_at {w : World} {b : Nat} {s : ByteArray} {p : Nat} (h : b < w.heap.size) : (setIt w b s p).heap[b]? = some (.stringIter s p) := by simp [setIt, h]
theorem setIt_below {w0 w : World} {b : Nat} {s : ByteArray} {p n : Nat} (h : Below n w0 w) (hb : n ≤ b) : Below n w0 (setIt w b s p) :=
  ⟨h.os, h.tape, h.output, by rw [setIt_size]; exact h.size, fun i hi => by
    rw [← h.block i hi]
    simp only [setIt]
    rw [Array.getElem?_setIfInBounds_ne (by omega)]⟩
theorem next_at {P : Program} {W : World} {b : Nat} {s : ByteArray} {pos : Nat} (hb : W.heap[b]? = some (.stringIter s pos)) (h : pos < s.size) (ty : TypeId) :
    (Instr.next (.pointer (some ⟨b, 0, none⟩)) true ty).run P W = .ok (.tuple #[.bool true, .int .i64 pos, .int .i32 (Utf8.decode s pos).1]) (setIt W b s (pos + (Utf8.decode s pos).2)) := by
  simp only [Instr.next, getObj, setObj, Sem.run_bind, Sem.run, hb, Result.andThen, h, if_true]
  simp [goInt, Sem.run, hb, setIt]
theorem next_end {P : Program} {W : World} {b : Nat} {s : ByteArray} {pos : Nat} (hb : W.heap[b]? = some (.stringIter s pos)) (h : ¬ pos < s.size) (ty : TypeId) :
    (Instr.next (.pointer (some ⟨b, 0, none⟩)) true ty).run P W = .ok (.tuple #[.bool false]) W := by
  simp [Instr.next, getObj, Sem.run, hb, h]
theorem decode_low (s : ByteArray) (pos : Nat) (h : pos < s.size) (ha : (s[pos]'h).toNat < 128) : Utf8.decode s pos = ((s[pos]'h).toNat, 1) := by
  have hn : (s.get! (pos + 0)).toNat < 128 := by rw [get_at s pos h]; exact ha
  simp only [Utf8.decode, hn, if_true]
  rw [get_at s pos h]
set_option maxRecDepth 100000 in
set_option maxHeartbeats 2000000 in
theorem any_short (s : ByteArray) (w : World) (h8 : s.size ≤ 8) : Calls Tryz.prog 105 #[.string s, .string ZC] w fun e w' => e = .returned (.int .i64 (Lib.indexAny s.data.toList [44, 34, 13, 10, 9])) ∧ Below w.heap.size w w' := by
  have h8z : decide ((8 : Int) < (s.size : Int)) = false := decide_eq_false (by omega)
  have HS := Lib.hid (fun W => Tryz.strings_shouldUseASCIISet (s.size : Int) W)
  rw [h8z] at HS
  clear h8z
  go_enter Tryz.func105, Tryz.ntmps105
  go_wp2_with (go_at_call 116; refine (HS.out _).mono ?_; rintro e w' ⟨rfl, hw⟩; rw [hw])
  go_loopg [9, 10] s.size (fun g _ _ wx => ∃ i : Nat, i + g = s.size ∧ Hid (wx.heap[w.heap.size]? = some (.stringIter s i)) ∧ Hid (Below w.heap.size w wx) ∧ Hid (Lib.NoAny s.data.toList [44, 34, 13, 10, 9] i))
  case atStart => exact ⟨0, by omega, Lib.hid (World.iter_heap w s 0), Lib.hid ((Below.refl _ _).alloc (Nat.le_refl _) _), Lib.hid (Lib.NoAny.zero _ _)⟩
  case round =>
    obtain ⟨i, hig, HI, HB, HN⟩ := hrel
    by_cases hi : i < s.size
    · have hnx := fun ty => next_at (P := Tryz.prog) HI.out hi ty
      obtain ⟨x, hx⟩ : ∃ x : UInt8, s[i]'hi = x := ⟨_, rfl⟩
      have Hx := Lib.hid (show s.data.toList[i]? = some x by rw [← hx]; exact Lib.data_getElem? s i hi)
      have hbl := (Array.getElem?_eq_some_iff.1 HI.out).1
      by_cases hx128 : x.toNat < 128
      · have e := decode_low s i hi (by rw [hx]; exact hx128)
        rw [hx] at e
        simp only [e] at hnx
        clear e hx
        have hcon := Lib.contains_iff_indexByte [44, 34, 13, 10, 9] x
        have HR : Hid (∀ W, Calls Tryz.prog 115 #[.string ZC, .int .i32 x.toNat] W fun e w' => e = .returned (.int .i64 (Lib.indexByte [44, 34, 13, 10, 9] x)) ∧ w' = W) := by
          intro W
          have := Tryz.strings_IndexRune_ascii ZC (x.toNat : Int) W (by omega) (by omega)
          rw [show ((x.toNat : Int)).toNat.toUInt8 = x by simp] at this
          exact this
        cases hin : ([44, 34, 13, 10, 9] : List UInt8).contains x
        · rw [hin] at hcon
          have hlt : ¬ ((0 : Int) ≤ Lib.indexByte [44, 34, 13, 10, 9] x) := of_decide_eq_false hcon.symm
          have Hin := Lib.hid hin
          clear hcon hin
          go_wp2_with (go_at_call 115; refine (HR.out _).mono ?_; rintro e w' ⟨rfl, hw⟩; rw [hw])
          go_roundg (s.size - (i + 1))
          case measure => omega
          case rel => exact ⟨i + 1, by omega, Lib.hid (setIt_at hbl), Lib.hid (setIt_below HB.out (Nat.le_refl _)), Lib.hid (HN.out.succ Hx.out Hin.out)⟩
        · rw [hin] at hcon
          have hge : (0 : Int) ≤ Lib.indexByte [44, 34, 13, 10, 9] x := of_decide_eq_true hcon.symm
          have Hin := Lib.hid hin
          clear hcon hin
          go_wp2_with (go_at_call 115; refine (HR.out _).mono ?_; rintro e w' ⟨rfl, hw⟩; rw [hw])
          go_ret
          exact ⟨by rw [Lib.indexAny_hit HN.out Hx.out Hin.out]; rfl, setIt_below HB.out (Nat.le_refl _)⟩
      · have hd := decode_high s i hi (by rw [hx]; omega)
        have hc := decode_cont s i hi (by rw [hx]; omega)
        clear hx
        have HC := Lib.hid hc.2
        have hc1 := hc.1
        clear hc
        generalize Utf8.decode s i = D at *
        obtain ⟨r, n⟩ := D
        have hr : 128 ≤ (r : Int) := by have := hd.1; simp at this; omega
        have hn : 1 ≤ n := hd.2
        have hn2 : i + n ≤ s.size := hc1
        have HC2 := Lib.hid (show ∀ (j : Nat) (b : UInt8), i ≤ j → j < i + n → s.data.toList[j]? = some b → 128 ≤ b.toNat from HC.out)
        clear hd hc1 HC
        have HR := Lib.hid (fun W => idxr_high W (r : Int) hr)
        go_wp2_with (go_at_call 115; refine (HR.out _).mono ?_; rintro e w2 ⟨rfl, hb2⟩; have HB2 := Lib.hid hb2; clear hb2)
        go_roundg (s.size - (i + n))
        case measure => omega
        case rel =>
          refine ⟨i + n, by omega, Lib.hid ?_, Lib.hid ?_, Lib.hid ?_⟩
          · exact (HB2.out.block _ (by rw [setIt_size]; exact hbl)).trans (setIt_at hbl)
          · exact (setIt_below HB.out (Nat.le_refl _)).trans (HB2.out.mono (by rw [setIt_size]; exact Nat.le_of_lt hbl))
          · intro j b hj hb
            by_cases hji : j < i
            · exact HN.out j b hji hb
            · have := HC2.out j b (by omega) hj hb
              have a1 : b ≠ 44 := by rintro rfl; simp at this
              have a2 : b ≠ 34 := by rintro rfl; simp at this
              have a3 : b ≠ 13 := by rintro rfl; simp at this
              have a4 : b ≠ 10 := by rintro rfl; simp at this
              have a5 : b ≠ 9 := by rintro rfl; simp at this
              simp [a1, a2, a3, a4, a5]
    · have hnx := next_end (P := Tryz.prog) HI.out hi
      go_wp2
      go_ret
      have he : i = s.size := by omega
      have HN2 : Lib.NoAny s.data.toList [44, 34, 13, 10, 9] s.size := he ▸ HN.out
      exact ⟨by rw [Lib.indexAny_none (by rw [← Lib.size_eq]; exact HN2)]; rfl, HB.out⟩
theorem any_long (s : ByteArray) (w : World) (h8 : 8 < s.size) (hs : s.size < 4294967281) : Calls Tryz.prog 105 #[.string s, .string ZC] w fun e w' => e = .returned (.int .i64 (Lib.indexAny s.data.toList [44, 34, 13, 10, 9])) ∧ Below w.heap.size w w' := by
  refine (Tryz.strings_IndexAny_long (zero_of_info (show (Tryz.prog.info? 188).map (fun i => (i.zero, i.size)) = some (some (.agg (Array.replicate 256 (.bool false))), 256) by kernel_rfl)).1 s ZC w (by decide) h8 hs (by decide) (by
    intro j b hb
    have : ∀ b ∈ ZC.data.toList, b.toNat < 128 := by decide
    exact this b (List.mem_of_getElem? hb))).mono fun e w' ⟨h1, h2⟩ => ⟨h1, ?_⟩
  rw [h2]
  exact ((Below.refl _ _).alloc (Nat.le_refl _) _).alloc (by simp) _
set_option maxHeartbeats 1000000 in
theorem contains_any (s : ByteArray) (w : World) (hs : s.size < 4294967281) : Calls Tryz.prog 93 #[.string s, .string ZC] w fun e w' => e = .returned (.bool (Lib.containsAny s.data.toList [44, 34, 13, 10, 9])) ∧ Below w.heap.size w w' := by
  have H : Hid (Calls Tryz.prog 105 #[.string s, .string ZC] w fun e w' => e = .returned (.int .i64 (Lib.indexAny s.data.toList [44, 34, 13, 10, 9])) ∧ Below w.heap.size w w') := Lib.hid (by
    by_cases h8 : s.size ≤ 8
    · exact any_short s w h8
    · exact any_long s w (by omega) hs)
  clear hs
  go_enter Tryz.func93, Tryz.ntmps93
  go_wp2_with (go_at_call 105; refine H.out.mono ?_; rintro e w' ⟨rfl, hw⟩)
  go_ret
  exact ⟨rfl, hw⟩
end
end Go.Proofs.YtappphffbnkloaaGreatDoor.Sht
set_option linter.unusedVariables false
set_option linter.unusedSimpArgs false
namespace Go.Proofs.YtappphffbnkloaaGreatDoor.Sht
open Go Go.RowKit Qd
attribute [local go_sem ↓] Go.wp_at_zero Go.wp_at_succ
/-- bytealg.MaxLen, whatever it holds -/
def ML (w : World) : Prop := ∃ m, w.cell? ⟨22, 0, none⟩ = some (.int .i64 m)
theorem ML.below {w w' : World} (h : ML w) {B : Nat} (k : Below B w w') (hB : 22 < B) : ML w' := by
  obtain ⟨m, h⟩ := h
  exact ⟨m, (k.cell (p := ⟨22, 0, none⟩) hB).trans h⟩
theorem ML.lt {w : World} (h : ML w) : 22 < w.heap.size := by
  obtain ⟨m, h⟩ := h
  exact World.block_lt_of_cell? w _ h
/-! ### plain -/
theorem esc_free : ∀ l : List UInt8, (∀ (k : Nat), l[k]? ≠ some 34) → esc l = l
  | [], _ => rfl
  | x :: l, h => by
    unfold esc
    rw [if_neg (fun e => h 0 (by rw [e]; rfl)), esc_free l (fun k => h (k + 1))]
theorem replaceK_esc : ∀ (k : Nat) (l : List UInt8), Lib.count l [34] = k → Lib.replaceK [34] [34, 34] k l = esc l
  | 0, l, h => by
    have hi : Lib.index l [34] = -1 := by
      have hge := Lib.index_ge l [34]
      by_cases hm : Lib.index l [34] = -1
      · exact hm
      · have := Lib.count_hit (s := l) (sub := [34]) (i := (Lib.index l [34]).toNat) (by simp) (by omega)
        omega
    rw [Lib.index_one] at hi
    rw [esc_free l (Lib.indexByte_none hi)]
    rfl
  | k + 1, l, h => by
    obtain ⟨i, hi⟩ := Lib.index_of_count (s := l) (old := [34]) (by omega)
    have hc := Lib.count_hit (s := l) (sub := [34]) (i := i) (by simp) hi
    rw [Lib.replaceK_hit _ _ _ _ i hi, replaceK_esc k _ (by omega)]
    rw [Lib.index_one] at hi
    obtain ⟨h1, h2⟩ := Lib.indexByte_some hi
    obtain ⟨hlt, h1'⟩ := List.getElem?_eq_some_iff.1 h1
    have e : l = l.take i ++ (34 :: l.drop (i + 1)) := by
      conv => lhs; rw [← List.take_append_drop i l, List.drop_eq_getElem_cons hlt, h1']
    have ht : esc (l.take i) = l.take i := esc_free _ fun j hj => by
      rw [List.getElem?_take] at hj
      split at hj
      · exact h2 j (by assumption) hj
      · cases hj
    conv => rhs; rw [e, esc_app, ht]
    have : esc (34 :: l.drop (i + 1)) = [34, 34] ++ esc (l.drop (i + 1)) := by
      conv => lhs; unfold esc; rw [if_pos rfl]
      rfl
    rw [this, List.append_assoc]
    rfl
theorem replaceAll_esc (l : List UInt8) : Lib.replaceAll l [34] [34, 34] = esc l := by
  unfold Lib.replaceAll Lib.replace
  rw [if_neg (by decide)]
  have : Lib.replaceNum l [34] (-1) = Lib.count l [34] := by unfold Lib.replaceNum; rw [if_pos (.inl (by decide))]
  rw [this]
  exact replaceK_esc _ l rfl
theorem containsAny_spec (l : List UInt8) : Lib.containsAny l [44, 34, 13, 10, 9] = l.any spec := by
  have hc : ∀ x : UInt8, ([44, 34, 13, 10, 9] : List UInt8).contains x = spec x := fun x => by
    unfold spec
    simp only [List.contains_cons, List.contains_nil, Bool.or_false, Bool.or_assoc]
  induction l with
  | nil => rfl
  | cons x l ih =>
    have hge := Lib.indexAny_ge [44, 34, 13, 10, 9] l
    unfold Lib.containsAny at ih ⊢
    rw [Lib.indexAny, hc x, List.any_cons]
    cases hx : spec x
    · simp only [Bool.false_eq_true, if_false, Bool.false_or]
      rw [← ih]
      by_cases hm : Lib.indexAny l [44, 34, 13, 10, 9] = -1
      · rw [hm]; rfl
      · rw [if_neg (by simpa using hm)]
        exact decide_eq_decide.2 (by omega)
    · simp
theorem cellO_size (c : List UInt8) : (cellO c).length ≤ 2 * c.length + 2 := by
  have := esc_len c
  unfold cellO
  split
  · simp; omega
  · omega
/-! ### clean -/
def okL (l : List UInt8) : Bool := l.all okB
set_option maxHeartbeats 2000000 in
theorem clean_r (s : ByteArray) (hl : s.size ≤ 9223372036854775807) (w : World) : Calls Tryz.prog 91 #[.string s] w fun e w' => e = .returned (.bool (okL s.data.toList)) ∧ w = w' := by
  have HA := Lib.hid (fun x w => allowed_r x w)
  go_enter Tryz.func91, Tryz.ntmps91
  go_wp2
  go_loop [6] (fun i => ∃ k : Nat, k ≤ s.size ∧ i = .int .i64 (k : Int) ∧ Hid ((s.data.toList.take k).all okB = true)) (fun i => s.size - (intOf i).toNat)
  case atStart => exact ⟨0, Nat.zero_le _, rfl, Lib.hid rfl⟩
  case round =>
    obtain ⟨k, hk, rfl, HK⟩ := hrel
    by_cases hlt : k < s.size
    · have hx := Lib.data_getElem? s k hlt
      obtain ⟨hx1, hx2⟩ := List.getElem?_eq_some_iff.1 hx
      have htk : (s.data.toList.take (k + 1)).all okB = okB s[k] := by
        rw [List.take_succ_eq_append_getElem hx1, List.all_append, HK.out, hx2]; simp
      cases ho : okB s[k]
      · have HF : Hid (okL s.data.toList = false) := Lib.hid (by
          unfold okL
          rw [← Bool.not_eq_true]
          intro h
          have := List.all_eq_true.1 h s[k] (List.mem_of_getElem? hx)
          rw [ho] at this; cases this)
        have HO := Lib.hid ho
        clear ho htk hx hx2
        go_wp2_with (go_at_call 99; (with_reducible refine (HA.out _ _).mono ?_); rintro e w1 ⟨rfl, rfl⟩; rw [HO.out])
        go_ret
        exact ⟨by rw [HF.out]; rfl, rfl⟩
      · rw [ho] at htk
        have HT := Lib.hid htk
        have HO := Lib.hid ho
        clear ho htk hx hx2
        go_wp2_with (go_at_call 99; (with_reducible refine (HA.out _ _).mono ?_); rintro e w1 ⟨rfl, rfl⟩; rw [HO.out])
        go_round
        case rel => exact ⟨k + 1, by omega, by go_num, HT⟩
        case measure => simp [intOf]; omega
    · have hs : s.data.toList.length = s.size := by rw [Array.length_toList]; rfl
      have h := HK.out
      rw [List.take_of_length_le (by omega)] at h
      have HF : Hid (okL s.data.toList = true) := Lib.hid h
      clear h hs
      go_wp2
      go_ret
      exact ⟨by rw [HF.out]; rfl, rfl⟩
/-! ### a cell -/
theorem IsBd.below {B b : Nat} {bs : List Value} {w w' : World} (h : IsBd B b bs w) (k : Below w.heap.size w w') : IsBd B b bs w' := by
  have one : ∀ p, BdAt B b p bs w → BdAt B b p bs w' := by
    rintro p ⟨hB, v, hb, hown, hne⟩
    refine ⟨hB, v, (k.block b (Array.getElem?_eq_some_iff.1 hb).1).trans hb, ?_, hne⟩
    obtain ⟨h1, h2⟩ := hown
    refine ⟨h1, ?_⟩
    rcases h2 with h2 | ⟨g, cap, cur, hv, hg, hh, q⟩
    · exact .inl h2
    · exact .inr ⟨g, cap, cur, hv, hg, (k.block g (Array.getElem?_eq_some_iff.1 hh).1).trans hh, q⟩
  rcases h with h | h
  · exact .inl (one _ h)
  · exact .inr (one _ h)
theorem IsBd.lt {B b : Nat} {bs : List Value} {w : World} (h : IsBd B b bs w) : b < w.heap.size := by
  rcases h with h | h <;> exact h.lt
theorem IsBd.ge {B b : Nat} {bs : List Value} {w : World} (h : IsBd B b bs w) : B ≤ b := by
  rcases h with h | h <;> exact h.1
/-- a builder holds these bytes -/
def Bld (B b : Nat) (l : List UInt8) (w : World) : Prop := IsBd B b (Lib.byteCells l) w ∧ B ≤ w.heap.size
theorem bld_byte {B b : Nat} {l : List UInt8} {w : World} (h : Bld B b l w) (c : UInt8) (k : Int) (hk : (c.toNat : Int) = k) (hl : l.length < 140737488355328) :
    Calls Tryz.prog 92 #[PT b, .int .u8 k] w fun e w' => e = .returned .nilIface ∧ Bld B b (l ++ [c]) w' ∧ Below B w w' :=
  (bbyte k h.1 (by rw [Lib.byteCells_length]; omega) h.2).mono fun e w' ⟨h1, h2, h3⟩ => ⟨h1, ⟨by subst hk; simpa [Lib.byteCells] using h2, Nat.le_trans h.2 h3.size⟩, h3⟩
theorem bld_str {B b : Nat} {l : List UInt8} {w : World} (h : Bld B b l w) (s : ByteArray) (hl : l.length + s.size ≤ 140737488355328) :
    Calls Tryz.prog 77 #[PT b, .string s] w fun e w' => e = .returned (.tuple #[.int .i64 s.size, .nilIface]) ∧ Bld B b (l ++ s.data.toList) w' ∧ Below B w w' :=
  (bstr s h.1 (by rw [Lib.byteCells_length]; omega) h.2).mono fun e w' ⟨h1, h2, h3⟩ => ⟨h1, ⟨by simpa [Lib.byteCells, Lib.strCells] using h2, Nat.le_trans h.2 h3.size⟩, h3⟩
theorem Bld.below {B b : Nat} {l : List UInt8} {w w' : World} (h : Bld B b l w) (k : Below w.heap.size w w') : Bld B b l w' := ⟨h.1.below k, Nat.le_trans h.2 k.size⟩
theorem replace_r (s : ByteArray) (hs : s.size ≤ 4096) (w : World) (hm : ML w) : Calls Tryz.prog 94 #[.string s, .string ⟨#[34]⟩, .string ⟨#[34, 34]⟩] w fun e w' => e = .returned (st (esc s.data.toList)) ∧ Below w.heap.size w w' := by
  obtain ⟨m, hm⟩ := hm
  have hc := Lib.countB_mul_le ⟨#[34]⟩ (by decide) s.size s (Nat.le_refl _)
  have h1 : (⟨#[34]⟩ : ByteArray).size = 1 := rfl
  have h2 : (⟨#[34, 34]⟩ : ByteArray).size = 2 := rfl
  rw [h1, Nat.mul_one] at hc
  have := Tryz.strings_ReplaceAll s ⟨#[34]⟩ ⟨#[34, 34]⟩ m w (by omega) hm (by decide) (by rw [h2]; omega)
  refine this.mono fun e w' ⟨q1, q2⟩ => ⟨?_, q2⟩
  rw [q1]
  show Ending.returned (.string ⟨(Lib.replaceAll s.data.toList [34] [34, 34]).toArray⟩) = _
  rw [replaceAll_esc]
set_option maxHeartbeats 4000000 in
set_option maxRecDepth 100000 in
theorem cell_r (first : Bool) (s : ByteArray) (hs : s.size ≤ 4096) {B b : Nat} {l : List UInt8} {w : World} (h : Bld B b l w) (hl : l.length ≤ 1000000) (hm : ML w) (hB : 22 < B) :
    Calls Tryz.prog 76 #[PT b, .bool first, .string s] w fun e w' => e = .returned (.tuple #[]) ∧ Bld B b (l ++ ((if first then [] else [44]) ++ cellO s.data.toList)) w' ∧ Below B w w' := by
  have hlen : s.data.toList.length = s.size := by rw [Array.length_toList]; rfl
  have hesc := esc_len s.data.toList
  rw [hlen] at hesc
  have HC := Lib.hid (fun W => contains_any s W (by omega))
  simp only [containsAny_spec] at HC
  have H0 := Lib.hid h
  have HM := Lib.hid hm
  clear h hm
  cases hany : s.data.toList.any spec
  · have e : cellO s.data.toList = s.data.toList := by unfold cellO; rw [if_neg (by rw [hany]; decide)]
    rw [e]
    clear e
    have HAny := Lib.hid hany
    clear hany
    cases first
    · go_enter Tryz.func76, Tryz.ntmps76
      go_wp2_with (first
        | (go_at_call 92; (with_reducible refine (bld_byte H0.out 44 44 rfl (by omega)).mono ?_); rintro e w1 ⟨rfl, h1, b1⟩; have H1 := Lib.hid h1; have B1 := Lib.hid b1; clear h1 b1)
        | (go_at_call 93; (with_reducible refine (HC.out _).mono ?_); rintro e w2 ⟨rfl, b2⟩; rw [HAny.out]; have H2 := Lib.hid (H1.out.below b2); have B2 := Lib.hid (B1.out.trans (b2.mono H1.out.2)); clear b2)
        | (go_at_call 77; (with_reducible refine (bld_str H2.out s (by simp; omega)).mono ?_); rintro e w3 ⟨rfl, h3, b3⟩; have H3 := Lib.hid h3; have B3 := Lib.hid (B2.out.trans b3); clear h3 b3))
      refine bodyPost_ret (results_none rfl _ _ _) rfl ?_
      exact ⟨rfl, by simpa using H3.out, B3.out⟩
    · go_enter Tryz.func76, Tryz.ntmps76
      go_wp2_with (first
        | (go_at_call 93; (with_reducible refine (HC.out _).mono ?_); rintro e w2 ⟨rfl, b2⟩; rw [HAny.out]; have H2 := Lib.hid (H0.out.below b2); have B2 := Lib.hid (b2.mono H0.out.2); clear b2)
        | (go_at_call 77; (with_reducible refine (bld_str H2.out s (by omega)).mono ?_); rintro e w3 ⟨rfl, h3, b3⟩; have H3 := Lib.hid h3; have B3 := Lib.hid (B2.out.trans b3); clear h3 b3))
      refine bodyPost_ret (results_none rfl _ _ _) rfl ?_
      exact ⟨rfl, by simpa using H3.out, B3.out⟩
  · have e : cellO s.data.toList = 34 :: (esc s.data.toList ++ [34]) := by unfold cellO; rw [if_pos hany]
    rw [e]
    clear e
    have HAny := Lib.hid hany
    clear hany
    cases first
    · go_enter Tryz.func76, Tryz.ntmps76
      go_wp2_with (first
        | (go_at_call 92; (with_reducible refine (bld_byte H0.out 44 44 rfl (by omega)).mono ?_); rintro e w1 ⟨rfl, h1, b1⟩; have H1 := Lib.hid h1; have B1 := Lib.hid b1; clear h1 b1)
        | (go_at_call 93; (with_reducible refine (HC.out _).mono ?_); rintro e w2 ⟨rfl, b2⟩; rw [HAny.out]; have H2 := Lib.hid (H1.out.below b2); have B2 := Lib.hid (B1.out.trans (b2.mono H1.out.2)); clear b2)
        | (go_at_call 92; (with_reducible refine (bld_byte H2.out 34 34 rfl (by simp; omega)).mono ?_); rintro e w3 ⟨rfl, h3, b3⟩; have H3 := Lib.hid h3; have B3 := Lib.hid (B2.out.trans b3); clear h3 b3))
      go_region_with (first
        | (go_at_call 94; (with_reducible refine (replace_r s hs _ ((HM.out.below B3.out hB).below (Below.refl _ _).drew hB)).mono ?_); rintro e w4 ⟨rfl, b4⟩; have H4 := Lib.hid (H3.out.below ((Below.refl _ _).drew.trans b4)); have B4 := Lib.hid (B3.out.trans (((Below.refl _ _).drew.trans b4).mono H3.out.2)); clear b4)
        | (go_at_call 77; (with_reducible refine (bld_str H4.out ⟨(esc s.data.toList).toArray⟩ (by simp [ByteArray.size]; omega)).mono ?_); rintro e w5 ⟨rfl, h5, b5⟩; have H5 := Lib.hid h5; have B5 := Lib.hid (B4.out.trans b5); clear h5 b5))
      all_goals
        go_wp2_with (go_at_call 92; (with_reducible refine (bld_byte H5.out 34 34 rfl (by simp; omega)).mono ?_); rintro e w6 ⟨rfl, h6, b6⟩; have H6 := Lib.hid h6; have B6 := Lib.hid (B5.out.trans b6); clear h6 b6)
        go_end0
        exact ⟨rfl, by simpa using H6.out, B6.out⟩
    · go_enter Tryz.func76, Tryz.ntmps76
      go_wp2_with (first
        | (go_at_call 93; (with_reducible refine (HC.out _).mono ?_); rintro e w2 ⟨rfl, b2⟩; rw [HAny.out]; have H2 := Lib.hid (H0.out.below b2); have B2 := Lib.hid (b2.mono H0.out.2); clear b2)
        | (go_at_call 92; (with_reducible refine (bld_byte H2.out 34 34 rfl (by omega)).mono ?_); rintro e w3 ⟨rfl, h3, b3⟩; have H3 := Lib.hid h3; have B3 := Lib.hid (B2.out.trans b3); clear h3 b3))
      go_region_with (first
        | (go_at_call 94; (with_reducible refine (replace_r s hs _ ((HM.out.below B3.out hB).below (Below.refl _ _).drew hB)).mono ?_); rintro e w4 ⟨rfl, b4⟩; have H4 := Lib.hid (H3.out.below ((Below.refl _ _).drew.trans b4)); have B4 := Lib.hid (B3.out.trans (((Below.refl _ _).drew.trans b4).mono H3.out.2)); clear b4)
        | (go_at_call 77; (with_reducible refine (bld_str H4.out ⟨(esc s.data.toList).toArray⟩ (by simp [ByteArray.size]; omega)).mono ?_); rintro e w5 ⟨rfl, h5, b5⟩; have H5 := Lib.hid h5; have B5 := Lib.hid (B4.out.trans b5); clear h5 b5))
      all_goals
        go_wp2_with (go_at_call 92; (with_reducible refine (bld_byte H5.out 34 34 rfl (by simp; omega)).mono ?_); rintro e w6 ⟨rfl, h6, b6⟩; have H6 := Lib.hid h6; have B6 := Lib.hid (B5.out.trans b6); clear h6 b6)
        go_end0
        exact ⟨rfl, by simpa using H6.out, B6.out⟩
end Go.Proofs.YtappphffbnkloaaGreatDoor.Sht
set_option linter.unusedVariables false
set_option linter.unusedSimpArgs false
namespace Go.Proofs.YtappphffbnkloaaGreatDoor.Sht
open Go Go.RowKit Qd
attribute [local go_sem ↓] Go.wp_at_zero Go.wp_at_succ
/-- rows of texts in memory, whatever else lies there -/
def RowIn (w : World) (v : Value) (r : List (List UInt8)) : Prop :=
  ∃ x cap, v = .slice x r.length cap ∧ r.length ≤ 9223372036854775807 ∧ ∀ i (h : i < r.length), ∃ a : Addr, x = some a ∧ w.cell? (a.add i) = some (st r[i])
def RowsIn (w : World) (v : Value) (rs : Rows) : Prop :=
  ∃ x cap, v = .slice x rs.length cap ∧ rs.length ≤ 9223372036854775807 ∧ ∀ i (h : i < rs.length), ∃ (a : Addr) (u : Value), x = some a ∧ w.cell? (a.add i) = some u ∧ RowIn w u rs[i]
theorem RowIn.below {w w' : World} {v : Value} {r : List (List UInt8)} (h : RowIn w v r) (k : Below w.heap.size w w') : RowIn w' v r := by
  obtain ⟨x, cap, h1, h2, h3⟩ := h
  refine ⟨x, cap, h1, h2, fun i hi => ?_⟩
  obtain ⟨a, q1, q2⟩ := h3 i hi
  exact ⟨a, q1, (k.cell (World.block_lt_of_cell? _ _ q2)).trans q2⟩
theorem RowsIn.below {w w' : World} {v : Value} {rs : Rows} (h : RowsIn w v rs) (k : Below w.heap.size w w') : RowsIn w' v rs := by
  obtain ⟨x, cap, h1, h2, h3⟩ := h
  refine ⟨x, cap, h1, h2, fun i hi => ?_⟩
  obtain ⟨a, u, q1, q2, q3⟩ := h3 i hi
  exact ⟨a, u, q1, (k.cell (World.block_lt_of_cell? _ _ q2)).trans q2, q3.below k⟩
/-- a fault behind a pointer -/
def FaultP (W : World) (B : Nat) (A : Nat → Addr) : Value → Option (Nat × Nat × Nat) → Prop
  | v, none => v = .pointer none
  | v, some (l, c, e) => coded e ∧ ∃ g, B ≤ g ∧ v = PT g ∧ W.heap[g]? = some (.cells #[I l, I c, errV A e] 70 (0, 0))
def Chk (A : Nat → Addr) (w : World) (f : Option (Nat × Nat × Nat)) (e : Ending) (w' : World) : Prop := ∃ v, e = .returned v ∧ FaultP w' w.heap.size A v f ∧ Below w.heap.size w w'
theorem chk_fault {A : Nat → Addr} {w wr : World} {f : Option (Nat × Nat × Nat)} {l c e : Nat} (hf : f = some (l, c, e)) (hb : Below w.heap.size w wr) (he : coded e) : Chk A w f (.returned (PT wr.heap.size)) (wr.alloc (.cells #[I l, I c, errV A e] 70)) := by
  subst hf
  exact ⟨_, rfl, ⟨he, _, hb.size, rfl, heap_alloc_new wr _⟩, hb.alloc hb.size _⟩
theorem chk_none {A : Nat → Addr} {w wr : World} {f : Option (Nat × Nat × Nat)} (hf : f = none) (hb : Below w.heap.size w wr) : Chk A w f (.returned (.pointer none)) wr := by
  subst hf
  exact ⟨_, rfl, rfl, hb⟩
theorem belowN {B : Nat} {w w' : World} (h : Below B w w') (n : Nat) : Below B w (w'.drewN n) := ⟨h.os, h.tape, h.output, h.size, h.block⟩
theorem cod' {c : Nat} (h : (1 ≤ c ∧ c ≤ 9) ∨ c = 20) : coded c := h
/-- what a row's check reads -/
structure ChkAt (A : Nat → Addr) (wr : World) (a : Addr) (k : Nat) (y : Option Addr) (n cap : Nat) (y0 : Option Addr) (n0 cap0 : Nat) : Prop where
  row : wr.cell? (a.add k) = some (.slice y n cap)
  head : wr.cell? a = some (.slice y0 n0 cap0)
  e6 : wr.cell? ⟨9, 0, none⟩ = some (errV A 6)
  e7 : wr.cell? ⟨10, 0, none⟩ = some (errV A 7)
  e8 : wr.cell? ⟨3, 0, none⟩ = some (errV A 8)
  e5 : wr.cell? ⟨8, 0, none⟩ = some (errV A 5)
  e4 : wr.cell? ⟨7, 0, none⟩ = some (errV A 4)
theorem rowsF_drop (w0 : Nat) (rs : Rows) (k : Nat) (h : k < rs.length) : rowsF w0 k (rs.drop k) = if (rowF w0 k rs[k]).isSome then rowF w0 k rs[k] else rowsF w0 (k + 1) (rs.drop (k + 1)) := by
  rw [List.drop_eq_getElem_cons h]; rfl
theorem cellsF_drop (line : Nat) (r : List (List UInt8)) (k : Nat) (h : k < r.length) : cellsF line k (r.drop k) = if 4096 < r[k].length then some (line, k, 5) else if r[k].all okB = false then some (line, k, 4) else cellsF line (k + 1) (r.drop (k + 1)) := by
  rw [List.drop_eq_getElem_cons h]; rfl
set_option maxHeartbeats 8000000 in
set_option maxRecDepth 100000 in
theorem checked_r (A : Nat → Addr) (rs : Rows) (v : Value) (w : World) (hF : SF w A) (h : RowsIn w v rs) : Calls Tryz.prog 75 #[v] w (Chk A w (checkO rs)) := by
  obtain ⟨x, cap, rfl, hlen, hx⟩ := h
  have HX := Lib.hid hx
  have HF := Lib.hid hF
  have HCl := Lib.hid (fun s hl w => clean_r s hl w)
  obtain ⟨w0, hw0⟩ : ∃ w0, w0 = (rs.headD []).length := ⟨_, rfl⟩
  have HW0 := Lib.hid hw0
  have HCk : Hid (checkO rs = rowsF w0 0 rs) := Lib.hid (by rw [hw0]; rfl)
  obtain ⟨fl, hfl⟩ : ∃ fl, fl = checkO rs := ⟨_, rfl⟩
  rw [← hfl]
  rw [← hfl] at HCk
  have HFl := Lib.hid hfl
  clear hx hF hw0 hfl
  go_enter Tryz.func75, Tryz.ntmps75
  go_wp2
  go_loopw [10] (fun i wr => ∃ k : Nat, k ≤ rs.length ∧ i = .int .i64 (k : Int) ∧ Hid (fl = rowsF w0 k (rs.drop k)) ∧ Hid (Below w.heap.size w wr)) (fun i _ => rs.length - (intOf i).toNat)
  case atStart => exact ⟨0, Nat.zero_le _, rfl, Lib.hid (by rw [HCk.out]; rfl), Lib.hid (Below.refl _ _)⟩
  case round =>
    obtain ⟨k, hk, rfl, HK, HB⟩ := hrel
    by_cases hlt : k < rs.length
    · obtain ⟨a, u, rfl, hc, y, capy, rfl, hyl, hy⟩ := HX.out k hlt
      obtain ⟨a', u0, ha', hc0, y0, capy0, rfl, hyl0, hy0⟩ := HX.out 0 (by omega)
      obtain rfl : a = a' := Option.some.inj ha'
      have hsf := HF.out.below HB.out
      have hn0 : rs[0].length = w0 := by rw [HW0.out]; cases rs with
        | nil => simp at hlt
        | cons r rs => rfl
      have HAt : Hid (ChkAt A wr a k y rs[k].length capy y0 w0 capy0) := Lib.hid ⟨(HB.out.cell (World.block_lt_of_cell? _ _ hc)).trans hc, by rw [← hn0]; exact (HB.out.cell (p := a) (World.block_lt_of_cell? _ _ hc0)).trans (by simpa [Addr.add] using hc0), hsf.hv 6 (cod' (by omega)), hsf.hv 7 (cod' (by omega)), hsf.hv 8 (cod' (by omega)), hsf.hv 5 (cod' (by omega)), hsf.hv 4 (cod' (by omega))⟩
      have hkk := rowsF_drop w0 rs k hlt
      obtain ⟨r, hr⟩ : ∃ r, r = rs[k] := ⟨_, rfl⟩
      rw [← hr] at hkk hyl hy HAt
      have HY := Lib.hid hy
      rw [← HK.out] at hkk
      have HKK := Lib.hid hkk
      clear hc hc0 hsf ha' hy hy0 hkk hr hn0 hyl0
      have lt0 : (0 : Int) < (rs.length : Int) := by omega
      by_cases g1 : k = 4096
      · have t1 : ((k : Int) == 4096) = true := by simp; omega
        have HG := Lib.hid (show fl = some (k + 1, 0, 7) by rw [HKK.out]; unfold rowF; rw [if_pos g1]; rfl)
        clear g1
        obtain ⟨c1, c2, c6, c7, c8, c5, c4⟩ := HAt.out
        go_wp2
        go_ret
        exact chk_fault HG.out HB.out (cod' (by omega))
      have t1 : ((k : Int) == 4096) = false := by simp; omega
      by_cases g2 : r.length = 0
      · have HG := Lib.hid (show fl = some (k + 1, 0, 6) by rw [HKK.out]; unfold rowF; rw [if_neg g1, if_pos g2]; rfl)
        have t2 : ((r.length : Int) == 0) = true := beq_iff_eq.2 (by omega)
        clear g1 g2
        obtain ⟨c1, c2, c6, c7, c8, c5, c4⟩ := HAt.out
        go_wp2
        go_ret
        exact chk_fault HG.out HB.out (cod' (by omega))
      have t2 : ((r.length : Int) == 0) = false := beq_eq_false_iff_ne.2 (by omega)
      by_cases g3 : 64 < r.length
      · have HG := Lib.hid (show fl = some (k + 1, 64, 6) by rw [HKK.out]; unfold rowF; rw [if_neg g1, if_neg g2, if_pos g3]; rfl)
        have t3 : decide ((r.length : Int) > 64) = true := by simp; omega
        clear g1 g2 g3
        obtain ⟨c1, c2, c6, c7, c8, c5, c4⟩ := HAt.out
        go_wp2
        go_ret
        exact chk_fault HG.out HB.out (cod' (by omega))
      have t3 : decide ((r.length : Int) > 64) = false := by simp; omega
      by_cases g4 : r.length ≠ w0
      · have HG := Lib.hid (show fl = some (k + 1, 0, 8) by rw [HKK.out]; unfold rowF; rw [if_neg g1, if_neg g2, if_neg g3, if_pos g4]; rfl)
        have t4 : ((r.length : Int) != (w0 : Int)) = true := by simp; omega
        have t4' : (r.length != w0) = true := by simpa using g4
        clear g1 g2 g3 g4
        obtain ⟨c1, c2, c6, c7, c8, c5, c4⟩ := HAt.out
        go_wp2
        go_ret
        exact chk_fault HG.out HB.out (cod' (by omega))
      have t4 : ((r.length : Int) != (w0 : Int)) = false := by simp; omega
      have t4' : (r.length != w0) = false := by simp; omega
      have hr64 : r.length ≤ 64 := by omega
      have HG : Hid (∀ f, cellsF (k + 1) 0 r = some f → fl = some f) := Lib.hid fun f hf => by
        rw [HKK.out]; unfold rowF; rw [if_neg g1, if_neg g2, if_neg g3, if_neg g4, hf]; rfl
      have HN : Hid (cellsF (k + 1) 0 r = none → fl = rowsF w0 (k + 1) (rs.drop (k + 1))) := Lib.hid fun hf => by
        rw [HKK.out]; unfold rowF; rw [if_neg g1, if_neg g2, if_neg g3, if_neg g4, hf]; rfl
      clear g1 g2 g3 g4
      obtain ⟨c1, c2, _, _, _, _, _⟩ := HAt.out
      obtain ⟨wo, rfl⟩ : ∃ wo : World, wo = wr := ⟨_, rfl⟩
      go_wp2
      go_loopw [54] (fun i wr => ∃ j : Nat, j ≤ r.length ∧ i = .int .i64 (j : Int) ∧ Hid (cellsF (k + 1) 0 r = cellsF (k + 1) j (r.drop j)) ∧ Hid (Below w.heap.size w wr)) (fun i _ => r.length - (intOf i).toNat)
      case atStart => exact ⟨0, Nat.zero_le _, rfl, Lib.hid rfl, HB⟩
      case round =>
        obtain ⟨j, hj, rfl, HJ, HBj⟩ := hrel
        clear c1 c2
        by_cases hjt : j < r.length
        · obtain ⟨b, rfl, hcb⟩ := HY.out j hjt
          have hjj := cellsF_drop (k + 1) r j hjt
          rw [← HJ.out] at hjj
          obtain ⟨s, hs⟩ : ∃ s, s = r[j] := ⟨_, rfl⟩
          rw [← hs] at hjj hcb
          have hsz : (⟨s.toArray⟩ : ByteArray).size = s.length := by simp [ByteArray.size]
          have d1 := (HBj.out.cell (World.block_lt_of_cell? _ _ hcb)).trans hcb
          have hsf := HF.out.below HBj.out
          have e5 : wr.cell? ⟨8, 0, none⟩ = some (errV A 5) := hsf.hv 5 (cod' (by omega))
          have e4 : wr.cell? ⟨7, 0, none⟩ = some (errV A 4) := hsf.hv 4 (cod' (by omega))
          have HJJ := Lib.hid hjj
          have HZ := Lib.hid hsz
          clear hjj hcb hs hsz hsf
          by_cases q1 : 4096 < s.length
          · have HG2 := Lib.hid (HG.out (k + 1, j, 5) (by rw [HJJ.out, if_pos q1]))
            have t5 : decide ((s.length : Int) > 4096) = true := by simp; omega
            clear q1
            go_wp2
            go_ret
            first | exact chk_fault HG2.out HBj.out (cod' (by omega)) | exact chk_fault HG2.out HBj.out.drew (cod' (by omega))
          have t5 : decide ((s.length : Int) > 4096) = false := by simp; omega
          have HC1 := Lib.hid (fun w => HCl.out ⟨s.toArray⟩ (by rw [HZ.out]; omega) w)
          by_cases q2 : s.all okB = false
          · have HG2 := Lib.hid (HG.out (k + 1, j, 4) (by rw [HJJ.out, if_neg q1, if_pos q2]))
            have HO : Hid (okL s = false) := Lib.hid q2
            clear q1 q2
            go_wp2_with (go_at_call 91; (with_reducible refine (HC1.out _).mono ?_); rintro e w1 ⟨rfl, rfl⟩; rw [show okL (⟨s.toArray⟩ : ByteArray).data.toList = false from HO.out])
            go_ret
            first | exact chk_fault HG2.out HBj.out (cod' (by omega)) | exact chk_fault HG2.out HBj.out.drew (cod' (by omega))
          have HJ2 := Lib.hid (show cellsF (k + 1) 0 r = cellsF (k + 1) (j + 1) (r.drop (j + 1)) by rw [HJJ.out, if_neg q1, if_neg q2])
          have HO : Hid (okL s = true) := Lib.hid (by unfold okL; simpa only [Bool.not_eq_false] using q2)
          clear q1 q2
          go_wp2_with (go_at_call 91; (with_reducible refine (HC1.out _).mono ?_); rintro e w1 ⟨rfl, rfl⟩; rw [show okL (⟨s.toArray⟩ : ByteArray).data.toList = true from HO.out])
          go_roundw
          case rel => exact ⟨j + 1, by omega, by go_num, HJ2, by first | exact HBj | exact Lib.hid HBj.out.drew⟩
          case measure => simp [intOf]; omega
        · obtain rfl : j = r.length := by omega
          have hn : cellsF (k + 1) 0 r = none := by rw [HJ.out, List.drop_length]; rfl
          have HN2 := Lib.hid (HN.out hn)
          clear hn
          go_wp2
          go_roundw
          case rel => exact ⟨k + 1, by omega, by go_num, HN2, HBj⟩
          case measure => simp [intOf]; omega
    · obtain rfl : k = rs.length := by omega
      have HN : Hid (fl = none) := Lib.hid (by rw [HK.out, List.drop_length]; rfl)
      go_wp2
      go_ret
      exact chk_none HN.out HB.out
end Go.Proofs.YtappphffbnkloaaGreatDoor.Sht
set_option linter.unusedVariables false
set_option linter.unusedSimpArgs false
namespace Go.Proofs.YtappphffbnkloaaGreatDoor.Sht
open Go Go.RowKit Qd
attribute [local go_sem ↓] Go.wp_at_zero Go.wp_at_succ
def Tld (A : Nat → Addr) (w : World) (o : List UInt8 × Option (Nat × Nat × Nat)) (e : Ending) (w' : World) : Prop := ∃ v, e = .returned (.tuple #[st o.1, v]) ∧ FaultP w' w.heap.size A v o.2 ∧ Below w.heap.size w w'
theorem cellsO_len : ∀ (l : List (List UInt8)), (∀ c ∈ l, c.length ≤ 4096) → (cellsO l).length ≤ 8195 * l.length
  | [], _ => Nat.zero_le _
  | c :: l, h => by
    have ht : ∀ l : List (List UInt8), (∀ c ∈ l, c.length ≤ 4096) → (tailO l).length ≤ 8195 * l.length := by
      intro l
      induction l with
      | nil => intro _; exact Nat.zero_le _
      | cons d l ih =>
        intro h
        have h1 := cellO_size d
        have h2 := h d List.mem_cons_self
        have h3 := ih (fun y hy => h y (List.mem_cons_of_mem _ hy))
        show (44 :: (cellO d ++ tailO l)).length ≤ _
        simp only [List.length_cons, List.length_append]; omega
    have h1 := cellO_size c
    have h2 := h c List.mem_cons_self
    have h3 := ht l (fun y hy => h y (List.mem_cons_of_mem _ hy))
    show (cellO c ++ tailO l).length ≤ _
    simp only [List.length_cons, List.length_append]; omega
theorem textO_take_le (rs : Rows) (k : Nat) : (textO (rs.take k)).length ≤ (textO rs).length := by
  conv => rhs; rw [← List.take_append_drop k rs, textO_app]
  simp
theorem textO_take (rs : Rows) (k : Nat) (h : k < rs.length) : textO (rs.take (k + 1)) = textO (rs.take k) ++ (cellsO rs[k] ++ [13, 10]) := by
  rw [List.take_succ_eq_append_getElem h, textO_snoc]; rfl
theorem cellsO_take (r : List (List UInt8)) (j : Nat) (h : j < r.length) : cellsO (r.take (j + 1)) = cellsO (r.take j) ++ ((if j = 0 then [] else [44]) ++ cellO r[j]) := by
  rw [List.take_succ_eq_append_getElem h, cellsO_snoc]
  congr 2
  by_cases h0 : j = 0
  · subst h0; simp
  · rw [if_neg h0, if_neg]
    intro e
    have := congrArg List.length e
    rw [List.length_take, List.length_nil] at this; omega
theorem print_over (rs : Rows) (hc : checkO rs = none) (k : Nat) (h : 262144 < (textO (rs.take k)).length) : printO rs = ([], some (0, 0, 20)) := by
  have := textO_take_le rs k
  unfold printO
  rw [hc]
  simp only [Option.isSome_none, Bool.false_eq_true, if_false]
  rw [if_pos (by omega)]
theorem print_done (rs : Rows) (hc : checkO rs = none) (h : (textO rs).length ≤ 262144) : printO rs = (textO rs, none) := by
  unfold printO
  rw [hc]
  simp only [Option.isSome_none, Bool.false_eq_true, if_false]
  rw [if_neg (by omega)]
theorem print_bad (rs : Rows) {f : Nat × Nat × Nat} (hc : checkO rs = some f) : printO rs = ([], some f) := by
  unfold printO
  rw [hc]; simp
set_option maxHeartbeats 8000000 in
set_option maxRecDepth 100000 in
theorem told_w (A : Nat → Addr) (rs : Rows) (v : Value) (w : World) (hF : SF w A) (h : RowsIn w v rs) (hM : ML w) : Calls Tryz.prog 57 #[v] w (Tld A w (printO rs)) := by
  have HCk := Lib.hid (checked_r A rs v w hF h)
  obtain ⟨x, cap, rfl, hlen, hx⟩ := h
  cases hc : checkO rs with
  | some f =>
    rw [hc] at HCk
    have HP := Lib.hid (print_bad rs hc)
    obtain ⟨l, c, e0⟩ := f
    clear hx hF hM hc
    go_enter Tryz.func57, Tryz.ntmps57
    go_wp2_with (go_at_call 75; (with_reducible refine HCk.out.mono ?_); rintro e w1 ⟨v1, rfl, hf, hb⟩; obtain ⟨he, g, hg, rfl, hh⟩ := hf; have HH := Lib.hid hh; have HE := Lib.hid he; have HB := Lib.hid hb; clear hh he hb)
    go_ret2
    rw [HP.out]
    exact ⟨_, rfl, ⟨HE.out, g, hg, rfl, HH.out⟩, HB.out⟩
  | none =>
    rw [hc] at HCk
    have HO := Lib.hid (fun k hk => print_over rs hc k hk)
    have HD := Lib.hid (fun hk => print_done rs hc hk)
    have HOk := Lib.hid ((checkO_none rs).1 hc).2
    have HX := Lib.hid hx
    have HF := Lib.hid hF
    have HM := Lib.hid hM
    clear hx hF hM hc
    go_enter Tryz.func57, Tryz.ntmps57
    go_wp2_with (go_at_call 75; (with_reducible refine HCk.out.mono ?_); rintro e w1 ⟨v1, rfl, hf, hb⟩; obtain rfl : v1 = .pointer none := hf; have HB := Lib.hid hb; clear hb)
    have HML : Hid (22 < w1.heap.size) := Lib.hid (Nat.lt_of_lt_of_le HM.out.lt HB.out.size)
    go_loopw [17] (fun i wr => ∃ k : Nat, k ≤ rs.length ∧ i = .int .i64 (k : Int) ∧ Hid (Bld w1.heap.size w1.heap.size (textO (rs.take k)) wr) ∧ Hid (Below w1.heap.size w1 wr) ∧ (textO (rs.take k)).length ≤ 262144) (fun i _ => rs.length - (intOf i).toNat)
    case atStart => exact ⟨0, Nat.zero_le _, rfl, Lib.hid ⟨Lib.fresh_isBuilder RW 5 w1, by simp⟩, Lib.hid ((Below.refl _ _).alloc (Nat.le_refl _) _), Nat.zero_le _⟩
    case round =>
      obtain ⟨k, hk, rfl, HL, HBk, hlk⟩ := hrel
      by_cases hlt : k < rs.length
      · obtain ⟨a, u, rfl, hca, y, capy, rfl, hyl, hy⟩ := HX.out k hlt
        have hroww := HOk.out rs[k] (List.getElem_mem hlt)
        have htk := textO_take rs k hlt
        obtain ⟨r, hr⟩ : ∃ r, r = rs[k] := ⟨_, rfl⟩
        rw [← hr] at hroww htk hyl hy hca
        have hbase : Below w.heap.size w wr := HB.out.trans (HBk.out.mono HB.out.size)
        have c1 := (hbase.cell (World.block_lt_of_cell? _ _ hca)).trans hca
        have HRow := Lib.hid hroww
        have HTk := Lib.hid htk
        have HY := Lib.hid hy
        have hr64 := hroww.few
        obtain ⟨acc, hacc⟩ : ∃ acc, acc = textO (rs.take k) := ⟨_, rfl⟩
        rw [← hacc] at HL hlk HTk
        clear hca hroww htk hr hy hbase hacc
        obtain ⟨wo, rfl⟩ : ∃ wo : World, wo = wr := ⟨_, rfl⟩
        go_wp2
        go_loopw [23] (fun i wr => ∃ j : Nat, j ≤ r.length ∧ i = .int .i64 (j : Int) ∧ Hid (Bld w1.heap.size w1.heap.size (acc ++ cellsO (r.take j)) wr) ∧ Hid (Below w1.heap.size w1 wr)) (fun i _ => r.length - (intOf i).toNat)
        case atStart => exact ⟨0, Nat.zero_le _, rfl, Lib.hid (by simpa [cellsO] using HL.out), HBk⟩
        case round =>
          obtain ⟨j, hj, rfl, HLj, HBj⟩ := hrel
          clear c1
          have hcl := cellsO_len (r.take j) (fun c hc => (HRow.out.cells c (List.mem_of_mem_take hc)).1)
          rw [List.length_take] at hcl
          by_cases hjt : j < r.length
          · obtain ⟨b, rfl, hcb⟩ := HY.out j hjt
            have hct := cellsO_take r j hjt
            have hsz := (HRow.out.cells r[j] (List.getElem_mem hjt)).1
            obtain ⟨s, hs⟩ : ∃ s, s = r[j] := ⟨_, rfl⟩
            rw [← hs] at hct hcb hsz
            have hbase : Below w.heap.size w wr := HB.out.trans (HBj.out.mono HB.out.size)
            have d1 := (hbase.cell (World.block_lt_of_cell? _ _ hcb)).trans hcb
            have HCt := Lib.hid hct
            have hll : (acc ++ cellsO (r.take j)).length ≤ 1000000 := by rw [List.length_append]; omega
            have hm := HM.out.below hbase HM.out.lt
            by_cases j0 : j = 0
            · have t0 : ((j : Int) == 0) = true := by simp; omega
              have HC1 := Lib.hid (cell_r true ⟨s.toArray⟩ (by simpa [ByteArray.size] using hsz) HLj.out hll hm HML.out)
              have HJ0 := Lib.hid j0
              clear hct hcb hs hsz hbase hll hm hcl j0
              go_wp2_with (go_at_call 76; (with_reducible refine HC1.out.mono ?_); rintro e w2 ⟨rfl, h2, b2⟩; have H2 := Lib.hid h2; have B2 := Lib.hid b2; clear h2 b2)
              go_roundw
              case rel => exact ⟨j + 1, by omega, by go_num, Lib.hid (by rw [HCt.out, if_pos HJ0.out, ← List.append_assoc]; exact H2.out), Lib.hid (HBj.out.trans B2.out)⟩
              case measure => simp [intOf]; omega
            · have t0 : ((j : Int) == 0) = false := by simp; omega
              have HC1 := Lib.hid (cell_r false ⟨s.toArray⟩ (by simpa [ByteArray.size] using hsz) HLj.out hll hm HML.out)
              have HJ0 := Lib.hid j0
              clear hct hcb hs hsz hbase hll hm hcl j0
              go_wp2_with (go_at_call 76; (with_reducible refine HC1.out.mono ?_); rintro e w2 ⟨rfl, h2, b2⟩; have H2 := Lib.hid h2; have B2 := Lib.hid b2; clear h2 b2)
              go_roundw
              case rel => exact ⟨j + 1, by omega, by go_num, Lib.hid (by rw [HCt.out, if_neg HJ0.out, ← List.append_assoc]; exact H2.out), Lib.hid (HBj.out.trans B2.out)⟩
              case measure => simp [intOf]; omega
          · obtain rfl : j = r.length := by omega
            rw [List.take_length] at HLj hcl
            have hll : (acc ++ cellsO r).length ≤ 1000000 := by rw [List.length_append]; omega
            have HW := Lib.hid (bld_str HLj.out ⟨#[13, 10]⟩ (by show _ + 2 ≤ _; omega))
            have hE : acc ++ cellsO r ++ [13, 10] = textO (rs.take (k + 1)) := by rw [HTk.out, List.append_assoc]
            have HE := Lib.hid hE
            obtain ⟨t2, ht2⟩ : ∃ t2, t2 = textO (rs.take (k + 1)) := ⟨_, rfl⟩
            have HT2 := Lib.hid ht2
            by_cases hov : 262144 < t2.length
            · have HP := Lib.hid (HO.out (k + 1) (by rw [← ht2]; exact hov))
              have t1 : decide ((t2.length : Int) > 262144) = true := by simp; omega
              clear hcl hll hE ht2 hov
              go_wp2_with (first
                | (go_at_call 77; (with_reducible refine HW.out.mono ?_); rintro e w2 ⟨rfl, h2, b2⟩; have H2 : Hid (Bld w1.heap.size w1.heap.size t2 w2) := Lib.hid (by rw [HT2.out, ← HE.out]; exact h2); have B2 := Lib.hid (HBj.out.trans b2); have hv20 : w2.cell? ⟨0, 0, none⟩ = some (errV A 20) := (HF.out.below (HB.out.trans (B2.out.mono HB.out.size))).hv 20 (cod' (by omega)); have HLn := Lib.hid (blen H2.out.1); rw [Lib.byteCells_length] at HLn; clear h2 b2)
                | (go_at_call 78; (with_reducible refine HLn.out.mono ?_); rintro e w3 ⟨rfl, rfl⟩))
              go_region
              all_goals
                go_wp2
                go_ret2
                rw [HP.out]
                exact ⟨_, rfl, ⟨cod' (by omega), _, Nat.le_trans (HB.out.trans (B2.out.mono HB.out.size)).size (Nat.le_refl _), rfl, heap_alloc_new _ _⟩, ((HB.out.trans (B2.out.mono HB.out.size)).drew).alloc (HB.out.trans (B2.out.mono HB.out.size)).size _⟩
            · have t1 : decide ((t2.length : Int) > 262144) = false := by simp; omega
              have hle : t2.length ≤ 262144 := by omega
              clear hcl hll hE ht2 hov
              go_wp2_with (first
                | (go_at_call 77; (with_reducible refine HW.out.mono ?_); rintro e w2 ⟨rfl, h2, b2⟩; have H2 : Hid (Bld w1.heap.size w1.heap.size t2 w2) := Lib.hid (by rw [HT2.out, ← HE.out]; exact h2); have B2 := Lib.hid (HBj.out.trans b2); have HLn := Lib.hid (blen H2.out.1); rw [Lib.byteCells_length] at HLn; clear h2 b2)
                | (go_at_call 78; (with_reducible refine HLn.out.mono ?_); rintro e w3 ⟨rfl, rfl⟩))
              go_roundw
              case rel => exact ⟨k + 1, by omega, by go_num, Lib.hid (by rw [← HT2.out]; exact H2.out), B2, by rw [← HT2.out]; exact hle⟩
              case measure => simp [intOf]; omega
      · obtain rfl : k = rs.length := by omega
        rw [List.take_length] at HL hlk
        have HP := Lib.hid (HD.out hlk)
        have HG := Lib.hid (bget (textO rs) HL.out.1 HL.out.2)
        clear hlk
        go_wp2_with (go_at_call 79; (with_reducible refine HG.out.mono ?_); rintro e w2 ⟨rfl, b2⟩; have B2 := Lib.hid (HBk.out.trans b2); clear b2)
        go_ret2
        rw [HP.out]
        exact ⟨_, rfl, rfl, HB.out.trans (B2.out.mono HB.out.size)⟩
/-- what Print answers -/
def Prt (A : Nat → Addr) (w : World) (o : List UInt8 × Option (Nat × Nat × Nat)) (e : Ending) (w' : World) : Prop := ∃ ve, e = .returned (.tuple #[st o.1, ve]) ∧ FaultAt w' w.heap.size A ve o.2 ∧ Below w.heap.size w w'
theorem print_bad1 (rs : Rows) {f : Nat × Nat × Nat} (h : (printO rs).2 = some f) : printO rs = ([], some f) := by
  unfold printO at h ⊢
  split
  · rename_i hc
    rw [if_pos hc] at h
    exact Prod.ext rfl h
  · rename_i hc
    rw [if_neg hc] at h
    split
    · rename_i hl
      rw [if_pos hl] at h
      exact Prod.ext rfl h
    · rename_i hl
      rw [if_neg hl] at h
      cases h
set_option maxHeartbeats 4000000 in
theorem print_r (A : Nat → Addr) (rs : Rows) (v : Value) (w : World) (hF : SF w A) (h : RowsIn w v rs) (hM : ML w) : Calls Tryz.prog 20 #[v] w (Prt A w (printO rs)) := by
  have HT := Lib.hid (told_w A rs v w hF h hM)
  obtain ⟨x, cap, rfl, _, _⟩ := h
  clear hF hM
  cases hp : (printO rs).2 with
  | some f =>
    have HP := Lib.hid (print_bad1 rs hp)
    obtain ⟨l, c, e0⟩ := f
    clear hp
    go_enter Tryz.func20, Tryz.ntmps20
    go_wp2_with (go_at_call 57; (with_reducible refine HT.out.mono ?_); rintro e w1 ⟨v1, rfl, hf, hb⟩; rw [HP.out] at hf; rw [HP.out]; obtain ⟨he, g, hg, rfl, hh⟩ := hf; have HH := Lib.hid hh; have HE := Lib.hid he; have HB := Lib.hid hb; clear hh he hb)
    go_ret2
    rw [HP.out]
    exact ⟨_, rfl, ⟨HE.out, g, hg, rfl, HH.out⟩, HB.out⟩
  | none =>
    have HP := Lib.hid hp
    clear hp
    go_enter Tryz.func20, Tryz.ntmps20
    go_wp2_with (go_at_call 57; (with_reducible refine HT.out.mono ?_); rintro e w1 ⟨v1, rfl, hf, hb⟩; rw [HP.out] at hf; obtain rfl : v1 = .pointer none := hf; have HB := Lib.hid hb; clear hb)
    go_ret2
    exact ⟨_, rfl, by rw [HP.out]; exact rfl, HB.out⟩
end Go.Proofs.YtappphffbnkloaaGreatDoor.Sht
set_option linter.unusedVariables false
set_option linter.unusedSimpArgs false
namespace Go.Proofs.YtappphffbnkloaaGreatDoor.Sht
open Go Go.RowKit
attribute [local go_sem ↓] Go.wp_at_zero Go.wp_at_succ
set_option maxHeartbeats 4000000 in
set_option maxRecDepth 100000 in
theorem texts_r (r : List (List UInt8)) (v1 v2 : Value) (w : World) (h1 : RowIn w v1 r) (h2 : RowIn w v2 r) : Calls Tryz.prog 42 #[v1, v2] w fun e w' => e = .returned (.bool true) ∧ Below w.heap.size w w' := by
  obtain ⟨x, cap, rfl, hlen, hx⟩ := h1
  obtain ⟨x', cap', rfl, _, hx'⟩ := h2
  have HX := Lib.hid hx
  have HX' := Lib.hid hx'
  clear hx hx'
  go_enter Tryz.func42, Tryz.ntmps42
  go_wp2
  go_loopw [5] (fun i wr => ∃ k : Nat, k ≤ r.length ∧ i = .int .i64 (k : Int) ∧ Hid (Below w.heap.size w wr)) (fun i _ => r.length - (intOf i).toNat)
  case atStart => exact ⟨0, Nat.zero_le _, rfl, Lib.hid (Below.refl _ _)⟩
  case round =>
    obtain ⟨k, hk, rfl, HB⟩ := hrel
    by_cases hlt : k < r.length
    · obtain ⟨a, rfl, hc⟩ := HX.out k hlt
      obtain ⟨b, rfl, hd⟩ := HX'.out k hlt
      obtain ⟨s, hs⟩ : ∃ s, s = (⟨r[k].toArray⟩ : ByteArray) := ⟨_, rfl⟩
      have c1 : wr.cell? (a.add k) = some (.string s) := by rw [hs]; exact (HB.out.cell (World.block_lt_of_cell? _ _ hc)).trans hc
      have c2 : wr.cell? (b.add k) = some (.string s) := by rw [hs]; exact (HB.out.cell (World.block_lt_of_cell? _ _ hd)).trans hd
      clear hc hd hs
      go_wp2
      go_quiet (fail)
      go_wp2
      go_roundw
      case rel => exact ⟨k + 1, by omega, by go_num, Lib.hid (belowN HB.out _)⟩
      case measure => simp [intOf]; omega
    · obtain rfl : k = r.length := by omega
      go_wp2
      go_ret
      exact ⟨rfl, HB.out⟩
set_option maxHeartbeats 4000000 in
set_option maxRecDepth 100000 in
theorem same_r2 (rs : Rows) (v1 v2 : Value) (w : World) (h1 : RowsIn w v1 rs) (h2 : RowsIn w v2 rs) : Calls Tryz.prog 12 #[v1, v2] w fun e w' => e = .returned (.bool true) ∧ Below w.heap.size w w' := by
  obtain ⟨x, cap, rfl, hlen, hx⟩ := h1
  obtain ⟨x', cap', rfl, _, hx'⟩ := h2
  have HX := Lib.hid hx
  have HX' := Lib.hid hx'
  clear hx hx'
  go_enter Tryz.func12, Tryz.ntmps12
  go_wp2
  go_loopw [5] (fun i wr => ∃ k : Nat, k ≤ rs.length ∧ i = .int .i64 (k : Int) ∧ Hid (Below w.heap.size w wr)) (fun i _ => rs.length - (intOf i).toNat)
  case atStart => exact ⟨0, Nat.zero_le _, rfl, Lib.hid (Below.refl _ _)⟩
  case round =>
    obtain ⟨k, hk, rfl, HB⟩ := hrel
    by_cases hlt : k < rs.length
    · obtain ⟨a, u, rfl, hc, hu⟩ := HX.out k hlt
      obtain ⟨b, u', rfl, hd, hu'⟩ := HX'.out k hlt
      have c1 : wr.cell? (a.add k) = some u := (HB.out.cell (World.block_lt_of_cell? _ _ hc)).trans hc
      have c2 : wr.cell? (b.add k) = some u' := (HB.out.cell (World.block_lt_of_cell? _ _ hd)).trans hd
      have HT := Lib.hid (texts_r _ _ _ wr.drew (hu.below HB.out.drew) (hu'.below HB.out.drew))
      clear hc hd
      obtain ⟨y, capy, rfl, _, _⟩ := hu
      obtain ⟨y', capy', rfl, _, _⟩ := hu'
      go_wp2
      go_region_with (go_at_call 42; (with_reducible refine HT.out.mono ?_); rintro e w2 ⟨rfl, b2⟩; have B2 := Lib.hid (HB.out.drew.trans (b2.mono HB.out.size)); clear b2)
      all_goals
        go_wp2
        go_roundw
        case rel => exact ⟨k + 1, by omega, by go_num, B2⟩
        case measure => simp [intOf]; omega
    · obtain rfl : k = rs.length := by omega
      go_wp2
      go_ret
      exact ⟨rfl, HB.out⟩
end Go.Proofs.YtappphffbnkloaaGreatDoor.Sht
set_option linter.unusedVariables false
set_option linter.unusedSimpArgs false
namespace Go.Proofs.YtappphffbnkloaaGreatDoor.Sht
open Go Go.RowKit
attribute [local go_sem ↓] Go.wp_at_zero Go.wp_at_succ
theorem maxLen_le {n : Nat} (h : n ≤ maxLen) : n ≤ 9223372036854775807 := by unfold maxLen at h; exact h
theorem rowIn_own {w : World} {B : Nat} {v : Value} {r : List (List UInt8)} (h : w.ownsRow B 9 1 v r.length (sts r)) : RowIn w v r := by
  rcases h.2 with ⟨rfl, h0⟩ | ⟨g, cap, cur, rfl, _, _, h1, h2, _⟩
  · exact ⟨none, 0, by rw [h0], by omega, fun i hi => absurd hi (by omega)⟩
  · refine ⟨_, cap, rfl, maxLen_le (Nat.le_trans h1 h2), fun i hi => ⟨_, rfl, ?_⟩⟩
    exact h.cells (g := g) rfl i _ (by simp [sts, hi])
theorem rowsAt_get {w : World} {B : Nat} : ∀ {lv : List Value} {rs : Rows}, RowsAt w B lv rs → lv.length = rs.length ∧ ∀ (j : Nat) (hj : j < rs.length), ∃ v, lv[j]? = some v ∧ w.ownsRow B 9 1 v rs[j].length (sts rs[j])
  | [], [], _ => ⟨rfl, fun j h => absurd h (by simp)⟩
  | v :: lv, r :: rs, h => by
    obtain ⟨h1, h2⟩ := rowsAt_get h.2
    refine ⟨by simp [h1], fun j hj => ?_⟩
    cases j with
    | zero => exact ⟨v, rfl, h.1⟩
    | succ j => exact h2 j (by simpa using hj)
  | [], _ :: _, h => h.elim
  | _ :: _, [], h => h.elim
theorem rowsIn_good {w : World} {B : Nat} {v : Value} {rs : Rows} (h : GoodRows B w v rs) : RowsIn w v rs := by
  obtain ⟨lv, h1, h2⟩ := h
  obtain ⟨h3, h4⟩ := rowsAt_get h2
  rcases h1.2 with ⟨rfl, h0⟩ | ⟨g, cap, cur, rfl, _, _, q1, q2, _⟩
  · exact ⟨none, 0, by rw [h0], by omega, fun i hi => absurd hi (by omega)⟩
  · refine ⟨_, cap, rfl, maxLen_le (Nat.le_trans q1 q2), fun i hi => ?_⟩
    obtain ⟨u, hu, hw⟩ := h4 i hi
    exact ⟨_, u, rfl, h1.cells (g := g) rfl i u hu, rowIn_own hw⟩
theorem toList_mk (l : List UInt8) : (⟨l.toArray⟩ : ByteArray).data.toList = l := rfl
theorem size_mk (l : List UInt8) : (⟨l.toArray⟩ : ByteArray).size = l.length := by simp [ByteArray.size]
theorem printO_len {rs : Rows} {t : List UInt8} (h : printO rs = (t, none)) : t.length ≤ 262144 := by
  obtain ⟨_, rfl, h3⟩ := printO_ok rs t h
  exact h3
end Go.Proofs.YtappphffbnkloaaGreatDoor.Sht
