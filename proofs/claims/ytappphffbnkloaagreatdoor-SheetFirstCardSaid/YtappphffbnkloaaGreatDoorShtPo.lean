/- What Print tells of rows, as plain lists; what is printed is read back. -/
import Derived.Test.YtappphffbnkloaaGreatDoorShtQp
set_option linter.unusedVariables false
set_option linter.unusedSimpArgs false
namespace Go.Proofs.YtappphffbnkloaaGreatDoor.Sht
open Qd
/-- must a cell with this byte be quoted? -/
def spec (x : UInt8) : Bool := x == 44 || x == 34 || x == 13 || x == 10 || x == 9
def cellO (c : List UInt8) : List UInt8 := if c.any spec then 34 :: (esc c ++ [34]) else c
def tailO : List (List UInt8) → List UInt8
  | [] => []
  | c :: l => 44 :: (cellO c ++ tailO l)
def cellsO : List (List UInt8) → List UInt8
  | [] => []
  | c :: l => cellO c ++ tailO l
def rowO (r : List (List UInt8)) : List UInt8 := cellsO r ++ [13, 10]
def textO : Rows → List UInt8
  | [] => []
  | r :: l => rowO r ++ textO l
theorem tailO_app : ∀ l m, tailO (l ++ m) = tailO l ++ tailO m
  | [], _ => rfl
  | c :: l, m => by
    rw [List.cons_append]
    show 44 :: (cellO c ++ tailO (l ++ m)) = (44 :: (cellO c ++ tailO l)) ++ tailO m
    rw [tailO_app l m]; simp
theorem cellsO_snoc (l : List (List UInt8)) (c : List UInt8) : cellsO (l ++ [c]) = cellsO l ++ ((if l = [] then [] else [44]) ++ cellO c) := by
  cases l with
  | nil => show cellO c ++ [] = [] ++ ([] ++ cellO c); simp
  | cons d l =>
    rw [if_neg (by simp), List.cons_append]
    show cellO d ++ tailO (l ++ [c]) = (cellO d ++ tailO l) ++ ([44] ++ cellO c)
    rw [tailO_app]
    show cellO d ++ (tailO l ++ (44 :: (cellO c ++ []))) = _
    simp
theorem textO_app : ∀ l m, textO (l ++ m) = textO l ++ textO m
  | [], _ => rfl
  | r :: l, m => by
    rw [List.cons_append]
    show rowO r ++ textO (l ++ m) = (rowO r ++ textO l) ++ textO m
    rw [textO_app l m]; simp
theorem textO_snoc (l : Rows) (r : List (List UInt8)) : textO (l ++ [r]) = textO l ++ rowO r := by
  rw [textO_app]; show _ ++ (rowO r ++ []) = _; simp
/-- the first fault of a row's cells -/
def cellsF (line : Nat) : Nat → List (List UInt8) → Option (Nat × Nat × Nat)
  | _, [] => none
  | k, c :: l => if 4096 < c.length then some (line, k, 5) else if c.all okB = false then some (line, k, 4) else cellsF line (k + 1) l
def rowF (w i : Nat) (r : List (List UInt8)) : Option (Nat × Nat × Nat) :=
  if i = 4096 then some (i + 1, 0, 7) else if r.length = 0 then some (i + 1, 0, 6) else if 64 < r.length then some (i + 1, 64, 6)
  else if r.length ≠ w then some (i + 1, 0, 8) else cellsF (i + 1) 0 r
def rowsF (w : Nat) : Nat → Rows → Option (Nat × Nat × Nat)
  | _, [] => none
  | i, r :: l => if (rowF w i r).isSome then rowF w i r else rowsF w (i + 1) l
def checkO (rs : Rows) : Option (Nat × Nat × Nat) := rowsF (rs.headD []).length 0 rs
def printO (rs : Rows) : List UInt8 × Option (Nat × Nat × Nat) :=
  if (checkO rs).isSome then ([], checkO rs) else if 262144 < (textO rs).length then ([], some (0, 0, 20)) else (textO rs, none)
/-- a row that may be -/
structure RowOk (w : Nat) (r : List (List UInt8)) : Prop where
  pos : 0 < r.length
  few : r.length ≤ 64
  wid : r.length = w
  cells : ∀ c ∈ r, c.length ≤ 4096 ∧ ∀ x ∈ c, okB x = true
theorem cellsF_none (line : Nat) : ∀ (l : List (List UInt8)) (k : Nat), cellsF line k l = none ↔ ∀ c ∈ l, c.length ≤ 4096 ∧ ∀ x ∈ c, okB x = true
  | [], k => by simp [cellsF]
  | c :: l, k => by
    unfold cellsF
    by_cases h1 : 4096 < c.length
    · rw [if_pos h1]
      simp only [reduceCtorEq, List.mem_cons, forall_eq_or_imp, false_iff, not_and]
      intro h; omega
    · rw [if_neg h1]
      by_cases h2 : c.all okB = false
      · rw [if_pos h2]
        simp only [reduceCtorEq, List.mem_cons, forall_eq_or_imp, false_iff, not_and]
        intro h
        have := List.all_eq_true.2 h.2
        rw [h2] at this; cases this
      · rw [if_neg h2, cellsF_none line l]
        have h3 : c.all okB = true := by simpa using h2
        have := List.all_eq_true.1 h3
        simp only [List.mem_cons, forall_eq_or_imp]
        exact ⟨fun h => ⟨⟨by omega, this⟩, h⟩, fun h => h.2⟩
theorem rowF_none (w i : Nat) (r : List (List UInt8)) : rowF w i r = none ↔ i ≠ 4096 ∧ RowOk w r := by
  unfold rowF
  by_cases h1 : i = 4096
  · rw [if_pos h1]; simp [h1]
  rw [if_neg h1]
  by_cases h2 : r.length = 0
  · rw [if_pos h2]
    simp only [reduceCtorEq, false_iff]
    rintro ⟨_, h⟩; have := h.pos; omega
  rw [if_neg h2]
  by_cases h3 : 64 < r.length
  · rw [if_pos h3]
    simp only [reduceCtorEq, false_iff]
    rintro ⟨_, h⟩; have := h.few; omega
  rw [if_neg h3]
  by_cases h4 : r.length ≠ w
  · rw [if_pos h4]
    simp only [reduceCtorEq, false_iff]
    rintro ⟨_, h⟩; exact h4 h.wid
  rw [if_neg h4, cellsF_none]
  exact ⟨fun h => ⟨h1, by omega, by omega, by omega, h⟩, fun h => h.2.cells⟩
theorem rowsF_none (w : Nat) : ∀ (l : Rows) (i : Nat), i ≤ 4096 → (rowsF w i l = none ↔ i + l.length ≤ 4096 ∧ ∀ r ∈ l, RowOk w r)
  | [], i, hi => by simp [rowsF, hi]
  | r :: l, i, hi => by
    unfold rowsF
    cases h : rowF w i r with
    | some f =>
      have : ¬ (i ≠ 4096 ∧ RowOk w r) := fun k => by have := (rowF_none w i r).2 k; rw [h] at this; cases this
      simp only [Option.isSome_some, if_true, reduceCtorEq, false_iff, List.length_cons, List.mem_cons, forall_eq_or_imp]
      rintro ⟨h1, h2, _⟩
      exact this ⟨by omega, h2⟩
    | none =>
      obtain ⟨h1, h2⟩ := (rowF_none w i r).1 h
      simp only [Option.isSome_none, Bool.false_eq_true, if_false, List.length_cons, List.mem_cons, forall_eq_or_imp]
      rw [rowsF_none w l (i + 1) (by omega)]
      exact ⟨fun q => ⟨by omega, h2, q.2⟩, fun q => ⟨by omega, q.2.2⟩⟩
theorem checkO_none (rs : Rows) : checkO rs = none ↔ rs.length ≤ 4096 ∧ ∀ r ∈ rs, RowOk (rs.headD []).length r := by
  unfold checkO; rw [rowsF_none _ _ 0 (by omega)]; simp
/-! ### what is printed is read back -/
section
variable {r : List (List UInt8)} {rs : Rows} {n w : Nat}
theorem run_e : ∀ (l : List UInt8) (c : List UInt8) (a : Nat) (s : RS), At .quoted c r rs n w a s → (∀ x ∈ l, okB x = true) → c.length + l.length ≤ 4096 → a + (esc l).length ≤ 262144 →
    At .quoted (c ++ l) r rs n w (a + (esc l).length) (s.feed (esc l))
  | [], c, a, s, h, _, _, _ => by simpa [esc, RS.feed] using h
  | x :: l, c, a, s, h, ho, hl, ha => by
    simp only [List.length_cons] at hl
    have hx := ho x List.mem_cons_self
    have ho' : ∀ y ∈ l, okB y = true := fun y hy => ho y (List.mem_cons_of_mem _ hy)
    unfold esc at ha ⊢
    by_cases e : x = 34
    · rw [if_pos e] at ha ⊢
      simp only [List.length_cons] at ha
      rw [feed_cons h.fault]
      have h1 : At .closed c r rs n w (a + 1) (s.step 34) := h.step (by omega) fun s' h' => by
        rw [next_quoted h']
        exact h'.turn .closed
      rw [feed_cons h1.fault]
      have h2 : At .quoted (c ++ [34]) r rs n w (a + 2) ((s.step 34).step 34) := h1.step (by omega) fun s' h' => by
        rw [next_closed h']
        exact (h'.turn .quoted).put (by omega)
      have := run_e l _ _ _ h2 ho' (by simp; omega) (by omega)
      subst e
      refine At.more (by simpa using this) (by simp; omega)
    · rw [if_neg e] at ha ⊢
      simp only [List.length_cons] at ha
      rw [feed_cons h.fault]
      have h1 : At .quoted (c ++ [x]) r rs n w (a + 1) (s.step x) := h.step (by omega) fun s' h' => by
        rw [next_quoted h']
        unfold RS.quoted
        rw [if_neg e, if_neg (by rw [hx]; decide)]
        exact h'.put (by omega)
      have := run_e l _ _ _ h1 ho' (by simp; omega) (by omega)
      refine At.more (by simpa using this) (by simp; omega)
theorem spec_no {x : UInt8} (h : spec x = false) : x ≠ 44 ∧ x ≠ 34 ∧ x ≠ 13 ∧ x ≠ 10 ∧ x ≠ 9 := by
  refine ⟨?_, ?_, ?_, ?_, ?_⟩ <;> rintro rfl <;> exact absurd h (by decide)
theorem plain_put (x : UInt8) (h : spec x = false) (ho : okB x = true) (s : RS) : s.plain x = s.put x := by
  obtain ⟨h1, h2, h3, h4, h5⟩ := spec_no h
  unfold RS.plain
  rw [if_neg h1, if_neg h3, if_neg h4, if_neg h2, if_neg (by rintro (e | e); exact h5 e; rw [ho] at e; cases e)]
theorem run_p : ∀ (l : List UInt8) (c : List UInt8) (a : Nat) (s : RS), At .plain c r rs n w a s → (∀ x ∈ l, okB x = true) → (∀ x ∈ l, spec x = false) → c.length + l.length ≤ 4096 → a + l.length ≤ 262144 →
    At .plain (c ++ l) r rs n w (a + l.length) (s.feed l)
  | [], c, a, s, h, _, _, _, _ => by simpa [RS.feed] using h
  | x :: l, c, a, s, h, ho, hp, hl, ha => by
    simp only [List.length_cons] at hl ha
    rw [feed_cons h.fault]
    have h1 : At .plain (c ++ [x]) r rs n w (a + 1) (s.step x) := h.step (by omega) fun s' h' => by
      rw [next_plain h', plain_put x (hp x List.mem_cons_self) (ho x List.mem_cons_self)]
      exact h'.put (by omega)
    have := run_p l _ _ _ h1 (fun y hy => ho y (List.mem_cons_of_mem _ hy)) (fun y hy => hp y (List.mem_cons_of_mem _ hy)) (by simp; omega) (by omega)
    refine At.more (by simpa using this) (by simp; omega)
/-- a cell stands, its end to come -/
structure EndC (c : List UInt8) (r : List (List UInt8)) (rs : Rows) (n w a : Nat) (s : RS) : Prop where
  at_ : ∃ m, At m c r rs n w a s ∧ (m = .plain ∨ m = .closed ∨ ((m = .fresh ∨ m = .start) ∧ c = [] ∧ n ≠ 4096))
theorem cell_run {m : Md} {c : List UInt8} {a : Nat} {s : RS} (h : At m [] r rs n w a s) (hm : m = .fresh ∨ m = .start) (hn : n ≠ 4096) (ho : ∀ x ∈ c, okB x = true) (hl : c.length ≤ 4096) (ha : a + (cellO c).length ≤ 262144) :
    EndC c r rs n w (a + (cellO c).length) (s.feed (cellO c)) := by
  unfold cellO at ha ⊢
  by_cases hs : c.any spec = true
  · rw [if_pos hs] at ha ⊢
    simp only [List.length_cons, List.length_append, List.length_nil] at ha
    rw [feed_cons h.fault]
    have h1 : At .quoted [] r rs n w (a + 1) (s.step 34) := h.step (by omega) fun s' h' => by
      rw [next_beg h' hm hn]
      exact ⟨rfl, h'.cell, h'.row, h'.rows, h'.count, h'.width, h'.fault, h'.all⟩
    have h2 := run_e c [] _ _ h1 ho (by simpa using hl) (by omega)
    rw [feed_snoc _ _ _ h2.fault]
    have h3 : At .closed ([] ++ c) r rs n w (a + 1 + (esc c).length + 1) (RS.step ((s.step 34).feed (esc c)) 34) := h2.step (by omega) fun s' h' => by
      rw [next_quoted h']
      exact h'.turn .closed
    exact ⟨.closed, At.more (by simpa using h3) (by simp; omega), .inr (.inl rfl)⟩
  · rw [if_neg hs] at ha ⊢
    have hs' : ∀ x ∈ c, spec x = false := fun x hx => by
      have := hs
      rw [Bool.not_eq_true, List.any_eq_false] at this
      simpa using this x hx
    cases c with
    | nil => exact ⟨m, by simpa [RS.feed] using h, .inr (.inr ⟨hm, rfl, hn⟩)⟩
    | cons x c =>
      simp only [List.length_cons] at ha hl
      have hx := hs' x List.mem_cons_self
      obtain ⟨_, h34, _⟩ := spec_no hx
      rw [feed_cons h.fault]
      have h1 : At .plain ([] ++ [x]) r rs n w (a + 1) (s.step x) := h.step (by omega) fun s' h' => by
        rw [next_beg h' hm hn]
        unfold RS.start
        rw [if_neg h34, plain_put x hx (ho x List.mem_cons_self)]
        exact (h'.turn .plain).put (by decide)
      have h2 := run_p c _ _ _ h1 (fun y hy => ho y (List.mem_cons_of_mem _ hy)) (fun y hy => hs' y (List.mem_cons_of_mem _ hy)) (by simp; omega) (by omega)
      exact ⟨.plain, At.more (by simpa using h2) (by simp; omega), .inl rfl⟩
theorem EndC.comma {c : List UInt8} {a : Nat} {s : RS} (h : EndC c r rs n w a s) (hr : r.length < 63) (ha : a < 262144) : At .start [] (r ++ [c]) rs n w (a + 1) (s.step 44) := by
  obtain ⟨m, hA, hm⟩ := h.at_
  refine hA.step ha fun s' h' => ?_
  rcases hm with rfl | rfl | ⟨hm, rfl, hn⟩
  · rw [next_plain h']; exact h'.comma hr
  · rw [next_closed h']; exact h'.comma hr
  · rw [next_beg h' hm hn]; exact (h'.turn .plain).comma hr
theorem at_cr {m : Md} {c : List UInt8} {a : Nat} {s : RS} (h : At m c r rs n w a s) : At .back [] (r ++ [c]) rs n w a s.cr :=
  ⟨rfl, rfl, by show s.row ++ [s.cell] = _; rw [h.row, h.cell], h.rows, h.count, h.width, h.fault, h.all⟩
theorem EndC.cr {c : List UInt8} {a : Nat} {s : RS} (h : EndC c r rs n w a s) (ha : a < 262144) : At .back [] (r ++ [c]) rs n w (a + 1) (s.step 13) := by
  obtain ⟨m, hA, hm⟩ := h.at_
  refine hA.step ha fun s' h' => ?_
  rcases hm with rfl | rfl | ⟨hm, rfl, hn⟩
  · rw [next_plain h']; exact at_cr h'
  · rw [next_closed h']; exact at_cr h'
  · rw [next_beg h' hm hn]; exact at_cr (h'.turn .plain)
theorem tail_run : ∀ (l : List (List UInt8)) (c : List UInt8) (r : List (List UInt8)) (a : Nat) (s : RS), EndC c r rs n w a s → n ≠ 4096 → (∀ d ∈ l, d.length ≤ 4096 ∧ ∀ x ∈ d, okB x = true) → r.length + l.length < 64 → a + (tailO l).length ≤ 262144 →
    ∃ c' r', r' ++ [c'] = r ++ (c :: l) ∧ EndC c' r' rs n w (a + (tailO l).length) (s.feed (tailO l))
  | [], c, r, a, s, h, _, _, _, _ => ⟨c, r, rfl, by simpa [tailO, RS.feed] using h⟩
  | d :: l, c, r, a, s, h, hn, hd, hr, ha => by
    simp only [tailO, List.length_cons, List.length_append] at hr ha ⊢
    have hf : s.fault = none := by obtain ⟨m, hA, _⟩ := h.at_; exact hA.fault
    have h1 := h.comma (by omega) (by omega)
    obtain ⟨d1, d2⟩ := hd d List.mem_cons_self
    have h2 := cell_run h1 (.inr rfl) hn d2 d1 (by omega)
    obtain ⟨c', r', e, h3⟩ := tail_run l d (r ++ [c]) _ _ h2 hn (fun y hy => hd y (List.mem_cons_of_mem _ hy)) (by simp; omega) (by omega)
    refine ⟨c', r', by rw [e]; simp, ?_⟩
    rw [feed_cons hf, feed_app]
    rw [show a + ((cellO d).length + (tailO l).length + 1) = a + 1 + (cellO d).length + (tailO l).length by omega]
    exact h3
end
theorem row_run {rs : Rows} {n w a : Nat} {s : RS} (r : List (List UInt8)) (h : At .fresh [] [] rs n w a s) (hn : n < 4096) (hw : n = 0 ∨ w = r.length) (hr : RowOk r.length r) (ha : a + (rowO r).length ≤ 262144) :
    At .fresh [] [] (rs ++ [r]) (n + 1) r.length (a + (rowO r).length) (s.feed (rowO r)) := by
  unfold rowO at ha ⊢
  simp only [List.length_append, List.length_cons, List.length_nil] at ha ⊢
  cases r with
  | nil => exact absurd hr.pos (by simp)
  | cons c l =>
    have hcs := hr.cells
    obtain ⟨c1, c2⟩ := hcs c List.mem_cons_self
    have hsz : (cellsO (c :: l)).length = (cellO c).length + (tailO l).length := by show (cellO c ++ tailO l).length = _; simp
    rw [hsz] at ha
    have h1 := cell_run h (.inl rfl) (by omega) c2 c1 (by omega)
    have hlen := hr.few
    simp only [List.length_cons] at hlen
    obtain ⟨c', r', e, h2⟩ := tail_run l c [] _ _ h1 (by omega) (fun y hy => hcs y (List.mem_cons_of_mem _ hy)) (by simp; omega) (by omega)
    have h2f : ((s.feed (cellO c)).feed (tailO l)).fault = none := by obtain ⟨m, hA, _⟩ := h2.at_; exact hA.fault
    have h3 := h2.cr (by omega)
    rw [e] at h3
    have h4 : At .fresh [] [] (rs ++ [c :: l]) (n + 1) (c :: l).length (a + (cellO c).length + (tailO l).length + 1 + 1) (RS.step (RS.step ((s.feed (cellO c)).feed (tailO l)) 13) 10) := h3.step (by omega) fun s' h' => by
      rw [next_back h']
      show At .fresh _ _ _ _ _ _ (s'.endRow s'.ml s'.mc)
      have hrow : s'.row = c :: l := h'.row
      have hwid : s'.widen.width = (c :: l).length ∧ s'.widen.row = s'.row ∧ s'.widen.rows = s'.rows ∧ s'.widen.count = s'.count ∧ s'.widen.fault = s'.fault ∧ s'.widen.all = s'.all ∧ s'.widen.cell = s'.cell := by
        unfold RS.widen
        by_cases h0 : s'.count = 0
        · rw [if_pos h0]; exact ⟨by show s'.row.length = _; rw [hrow], rfl, rfl, rfl, rfl, rfl, rfl⟩
        · rw [if_neg h0]
          refine ⟨?_, rfl, rfl, rfl, rfl, rfl, rfl⟩
          rw [h'.width]
          rcases hw with e | e
          · rw [h'.count] at h0; exact absurd e h0
          · exact e
      obtain ⟨w1, w2, w3, w4, w5, w6, w7⟩ := hwid
      unfold RS.endRow
      rw [if_pos (by rw [w1, w2, hrow])]
      exact ⟨rfl, by show s'.widen.cell = _; rw [w7, h'.cell], rfl, by show s'.widen.rows ++ [s'.widen.row] = _; rw [w3, w2, h'.rows, hrow], by show s'.widen.count + 1 = _; rw [w4, h'.count], w1, by show s'.widen.fault = _; rw [w5, h'.fault], by show s'.widen.all ≤ _; rw [w6]; exact h'.all⟩
    have e2 : s.feed (cellsO (c :: l) ++ [13, 10]) = RS.step (RS.step ((s.feed (cellO c)).feed (tailO l)) 13) 10 := by
      show s.feed ((cellO c ++ tailO l) ++ [13, 10]) = _
      rw [feed_app, feed_app, feed_cons h2f, feed_cons h3.fault]; rfl
    rw [e2, hsz]
    exact h4.more (by omega)
theorem rows_run : ∀ (l rs : Rows) (n w a : Nat) (s : RS), At .fresh [] [] rs n w a s → n + l.length ≤ 4096 → (∀ r ∈ l, RowOk (l.headD []).length r) → (n = 0 ∨ l = [] ∨ w = (l.headD []).length) → a + (textO l).length ≤ 262144 →
    ∃ w', At .fresh [] [] (rs ++ l) (n + l.length) w' (a + (textO l).length) (s.feed (textO l))
  | [], rs, n, w, a, s, h, _, _, _, _ => ⟨w, by simpa [textO, RS.feed] using h⟩
  | r :: l, rs, n, w, a, s, h, hn, hr, hw, ha => by
    simp only [textO, List.length_cons, List.length_append, List.headD_cons] at hn hr hw ha ⊢
    have h1 := row_run r h (by omega) (by rcases hw with e | e | e; exact .inl e; cases e; exact .inr e) (hr r List.mem_cons_self) (by omega)
    have hh : ∀ q ∈ l, RowOk (l.headD []).length q := fun q hq => by
      have : RowOk r.length q := hr q (List.mem_cons_of_mem _ hq)
      cases l with
      | nil => cases hq
      | cons q' l =>
        have h' : RowOk r.length q' := hr q' (List.mem_cons_of_mem _ List.mem_cons_self)
        simp only [List.headD_cons]
        rw [h'.wid]; exact this
    obtain ⟨w', h2⟩ := rows_run l _ _ _ _ _ h1 (by omega) hh (by
      cases l with
      | nil => exact .inr (.inl rfl)
      | cons q' l =>
        have h' : RowOk r.length q' := hr q' (List.mem_cons_of_mem _ List.mem_cons_self)
        exact .inr (.inr h'.wid.symm)) (by omega)
    refine ⟨w', ?_⟩
    rw [feed_app]
    rw [show n + (l.length + 1) = n + 1 + l.length by omega, show a + ((rowO r).length + (textO l).length) = a + (rowO r).length + (textO l).length by omega]
    simpa using h2
theorem parse_text (rs : Rows) (h : checkO rs = none) (hl : (textO rs).length ≤ 262144) : parseO (textO rs) = (rs, none) := by
  obtain ⟨h1, h2⟩ := (checkO_none rs).1 h
  obtain ⟨w', h3⟩ := rows_run rs [] 0 0 0 RS.new ⟨rfl, rfl, rfl, rfl, rfl, rfl, rfl, Nat.le_refl _⟩ (by omega) h2 (.inl rfl) (by omega)
  generalize hs : RS.new.feed (textO rs) = s at h3
  have hfin : RS.fin { s with rows := [] } = { s with rows := [] } := by
    unfold RS.fin
    rw [if_pos h3.fault]
    unfold RS.over
    show (match s.md with | .fresh => _ | .start => _ | .plain => _ | .closed => _ | .quoted => _ | .back => _) = _
    rw [h3.md]
  unfold parseO
  rw [hs, if_neg (by rw [h3.fault]; simp), hfin, if_neg (by show ¬ s.fault ≠ none; rw [h3.fault]; simp), h3.rows]
  simp
theorem printO_ok (rs : Rows) (t : List UInt8) (h : printO rs = (t, none)) : checkO rs = none ∧ t = textO rs ∧ (textO rs).length ≤ 262144 := by
  unfold printO at h
  cases hc : checkO rs with
  | some f => rw [hc] at h; simp at h
  | none =>
    rw [hc] at h
    simp only [Option.isSome_none, Bool.false_eq_true, if_false] at h
    split at h
    · cases h
    · rename_i hl
      cases h
      exact ⟨rfl, rfl, by omega⟩
/-- what is printed is read back -/
theorem back_print (rs : Rows) (t : List UInt8) (h : printO rs = (t, none)) : parseO t = (rs, none) := by
  obtain ⟨h1, rfl, h3⟩ := printO_ok rs t h
  exact parse_text rs h1 h3
end Go.Proofs.YtappphffbnkloaaGreatDoor.Sht
