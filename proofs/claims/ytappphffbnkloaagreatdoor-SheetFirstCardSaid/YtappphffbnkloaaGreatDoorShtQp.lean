/- A quoted cell behind commas: what the machine makes of it. -/
import Derived.Test.YtappphffbnkloaaGreatDoorShtN
set_option linter.unusedVariables false
set_option linter.unusedSimpArgs false
namespace Go.Proofs.YtappphffbnkloaaGreatDoor.Sht.Qd
/-- a state but for its places -/
structure At (m : Md) (c : List UInt8) (r : List (List UInt8)) (rs : Rows) (n w a : Nat) (s : RS) : Prop where
  md : s.md = m
  cell : s.cell = c
  row : s.row = r
  rows : s.rows = rs
  count : s.count = n
  width : s.width = w
  fault : s.fault = none
  all : s.all ≤ a
section
variable {m m' : Md} {c c' : List UInt8} {r r' : List (List UInt8)} {rs rs' : Rows} {n n' w w' a a' : Nat} {s : RS} {x : UInt8}
theorem At.on (h : At m c r rs n w a s) (x : UInt8) : At m c r rs n w a (s.on x) := by
  unfold RS.on
  split <;> exact ⟨h.md, h.cell, h.row, h.rows, h.count, h.width, h.fault, h.all⟩
theorem At.more (h : At m c r rs n w a s) (k : a ≤ a') : At m c r rs n w a' s := ⟨h.md, h.cell, h.row, h.rows, h.count, h.width, h.fault, Nat.le_trans h.all k⟩
theorem At.step (h : At m c r rs n w a s) (ha : a < 262144) (k : ∀ s', At m c r rs n w (a + 1) s' → At m' c' r' rs' n' w' a' (s'.next x)) : At m' c' r' rs' n' w' a' (s.step x) := by
  unfold RS.step
  rw [if_neg (by have := h.all; omega)]
  exact (k { s with all := s.all + 1 } ⟨h.md, h.cell, h.row, h.rows, h.count, h.width, h.fault, by show s.all + 1 ≤ a + 1; have := h.all; omega⟩).on x
theorem step_fault (h : At m c r rs n w a s) (ha : a < 262144) {e : Nat} (k : ∀ s', At m c r rs n w (a + 1) s' → ∃ p q, (s'.next x).fault = some (p, q, e)) : ∃ p q, (s.step x).fault = some (p, q, e) := by
  unfold RS.step
  rw [if_neg (by have := h.all; omega)]
  obtain ⟨p, q, hk⟩ := k { s with all := s.all + 1 } ⟨h.md, h.cell, h.row, h.rows, h.count, h.width, h.fault, by show s.all + 1 ≤ a + 1; have := h.all; omega⟩
  refine ⟨p, q, ?_⟩
  unfold RS.on
  split <;> exact hk
theorem At.comma (h : At m c r rs n w a s) (hl : r.length < 63) : At .start [] (r ++ [c]) rs n w a s.comma := by
  unfold RS.comma
  rw [if_neg (by show ¬ (s.row ++ [s.cell]).length = 64; rw [h.row]; simp; omega)]
  exact ⟨rfl, rfl, by show s.row ++ [s.cell] = _; rw [h.row, h.cell], h.rows, h.count, h.width, h.fault, h.all⟩
theorem At.turn (h : At m c r rs n w a s) (m' : Md) : At m' c r rs n w a (s.turn m') := ⟨rfl, h.cell, h.row, h.rows, h.count, h.width, h.fault, h.all⟩
theorem At.put (h : At m c r rs n w a s) (hl : c.length < 4096) : At m (c ++ [x]) r rs n w a (s.put x) := by
  unfold RS.put
  rw [if_neg (by rw [h.cell]; simp; omega)]
  exact ⟨h.md, by show s.cell ++ [x] = _; rw [h.cell], h.row, h.rows, h.count, h.width, h.fault, h.all⟩
theorem put_full (h : At m c r rs n w a s) (hl : c.length = 4096) : ∃ p q, (s.put x).fault = some (p, q, 5) := by
  unfold RS.put
  rw [if_pos (by rw [h.cell]; simp; omega)]
  exact ⟨_, _, rfl⟩
theorem next_beg (h : At m c r rs n w a s) (hm : m = .fresh ∨ m = .start) (hn : n ≠ 4096) : s.next x = s.start x := by
  unfold RS.next
  rw [h.md]
  rcases hm with rfl | rfl
  · show s.fresh x = _
    unfold RS.fresh
    rw [if_neg (by rw [h.count]; exact hn)]
  · rfl
theorem next_quoted (h : At .quoted c r rs n w a s) : s.next x = s.quoted x := by unfold RS.next; rw [h.md]
theorem next_closed (h : At .closed c r rs n w a s) : s.next x = s.closed x := by unfold RS.next; rw [h.md]
theorem next_plain (h : At .plain c r rs n w a s) : s.next x = s.plain x := by unfold RS.next; rw [h.md]
theorem next_back (h : At .back c r rs n w a s) : s.next x = s.back x := by unfold RS.next; rw [h.md]
end
theorem commas : ∀ k, k ≤ 60 → ∃ m, (m = Md.fresh ∨ m = .start) ∧ At m [] (List.replicate k []) [] 0 0 k (RS.new.feed (List.replicate k 44))
  | 0, _ => ⟨.fresh, .inl rfl, ⟨rfl, rfl, rfl, rfl, rfl, rfl, rfl, Nat.le_refl _⟩⟩
  | k + 1, hk => by
    obtain ⟨m, hm, h⟩ := commas k (by omega)
    refine ⟨.start, .inr rfl, ?_⟩
    rw [List.replicate_succ', List.replicate_succ', feed_snoc _ _ _ h.fault]
    refine h.step (by omega) fun s' h' => ?_
    rw [next_beg h' hm (by decide)]
    exact (h'.turn .plain).comma (by simp; omega)
theorem begin_quoted {m : Md} {r : List (List UInt8)} {a : Nat} {s : RS} (h : At m [] r [] 0 0 a s) (hm : m = .fresh ∨ m = .start) (ha : a < 262144) : At .quoted [] r [] 0 0 (a + 1) (s.step 34) :=
  h.step ha fun s' h' => by
    rw [next_beg h' hm (by decide)]
    exact ⟨rfl, h'.cell, h'.row, h'.rows, h'.count, h'.width, h'.fault, h'.all⟩
def esc : List UInt8 → List UInt8
  | [] => []
  | x :: l => if x = 34 then 34 :: 34 :: esc l else x :: esc l
theorem esc_app : ∀ l m, esc (l ++ m) = esc l ++ esc m
  | [], _ => rfl
  | x :: l, m => by
    rw [List.cons_append]
    show (if x = 34 then 34 :: 34 :: esc (l ++ m) else x :: esc (l ++ m)) = (if x = 34 then 34 :: 34 :: esc l else x :: esc l) ++ esc m
    rw [esc_app l m]
    split <;> rfl
theorem esc_len : ∀ l, (esc l).length ≤ 2 * l.length
  | [] => Nat.le_refl _
  | x :: l => by
    have := esc_len l
    unfold esc
    split <;> simp <;> omega
theorem run_q {r : List (List UInt8)} {rs : Rows} {n w : Nat} : ∀ (l : List UInt8) (c : List UInt8) (a : Nat) (s : RS), At .quoted c r rs n w a s → (∀ x ∈ l, okB x = true) → c.length + l.length ≤ 4096 → a + 2 * l.length ≤ 262144 →
    At .quoted (c ++ l) r rs n w (a + 2 * l.length) (s.feed (esc l))
  | [], c, a, s, h, _, _, _ => by simpa [esc, RS.feed] using h
  | x :: l, c, a, s, h, ho, hl, ha => by
    simp only [List.length_cons] at hl ha
    have hx := ho x List.mem_cons_self
    have ho' : ∀ y ∈ l, okB y = true := fun y hy => ho y (List.mem_cons_of_mem _ hy)
    unfold esc
    by_cases e : x = 34
    · rw [if_pos e, feed_cons h.fault]
      have h1 : At .closed c r rs n w (a + 1) (s.step 34) := h.step (by omega) fun s' h' => by
        rw [next_quoted h']
        exact h'.turn .closed
      rw [feed_cons h1.fault]
      have h2 : At .quoted (c ++ [34]) r rs n w (a + 2) ((s.step 34).step 34) := h1.step (by omega) fun s' h' => by
        rw [next_closed h']
        exact (h'.turn .quoted).put (by omega)
      have := run_q l _ _ _ h2 ho' (by simp; omega) (by omega)
      subst e
      simpa [Nat.mul_add, Nat.add_assoc, Nat.add_comm, Nat.add_left_comm] using this
    · rw [if_neg e, feed_cons h.fault]
      have h1 : At .quoted (c ++ [x]) r rs n w (a + 1) (s.step x) := h.step (by omega) fun s' h' => by
        rw [next_quoted h']
        unfold RS.quoted
        rw [if_neg e, if_neg (by rw [hx]; decide)]
        exact h'.put (by omega)
      have := run_q l _ _ _ h1 ho' (by simp; omega) (by omega)
      refine At.more (by simpa using this) (by simp; omega)
/-- the sheet of the law -/
def Qt (n : Nat) (l : List UInt8) : List UInt8 := List.replicate n 44 ++ (34 :: esc l) ++ [34, 44, 122, 13, 10]
theorem parse_fault {l : List UInt8} {f : Nat × Nat × Nat} (h : (RS.new.feed l).fault = some f) : parseO l = ([], some f) := by
  unfold parseO
  rw [if_pos (by rw [h]; simp), h]
theorem fault_on {s : RS} {l : List UInt8} {f : Nat × Nat × Nat} (h : s.fault = some f) : (s.feed l).fault = some f := by
  rw [feed_stop (by rw [h]; simp), h]
/-- up to the cell's end -/
theorem upto (n : Nat) (hn : n ≤ 60) (l : List UInt8) (ho : ∀ x ∈ l, okB x = true) (hl : l.length ≤ 4096) :
    At .quoted l (List.replicate n []) [] 0 0 (n + 1 + 2 * l.length) (RS.new.feed (List.replicate n 44 ++ (34 :: esc l))) := by
  obtain ⟨m, hm, h⟩ := commas n hn
  have h1 := begin_quoted h hm (by omega)
  rw [feed_app, feed_cons h.fault]
  have := run_q l [] _ _ h1 ho (by simpa using hl) (by omega)
  simpa using this
theorem quoted_good (n : Nat) (hn : n ≤ 60) (l : List UInt8) (ho : ∀ x ∈ l, okB x = true) (hl : l.length ≤ 4096) : parseO (Qt n l) = ([List.replicate n [] ++ [l, [122]]], none) := by
  have h0 := upto n hn l ho hl
  have h1 : At .closed l (List.replicate n []) [] 0 0 (n + 1 + 2 * l.length + 1) (RS.step (RS.new.feed (List.replicate n 44 ++ (34 :: esc l))) 34) := h0.step (by omega) fun s' h' => by
    rw [next_quoted h']
    exact h'.turn .closed
  have h2 := h1.step (x := 44) (by omega) fun s' h' => by
    rw [next_closed h']
    exact h'.comma (by simp; omega)
  have h3 : At .plain [122] (List.replicate n [] ++ [l]) [] 0 0 (n + 1 + 2 * l.length + 1 + 1 + 1) _ := h2.step (x := 122) (by omega) fun s' h' => by
    rw [next_beg h' (.inr rfl) (by decide)]
    exact (h'.turn .plain).put (x := 122) (by decide)
  have h4 : At .back [] (List.replicate n [] ++ [l] ++ [[122]]) [] 0 0 (n + 1 + 2 * l.length + 1 + 1 + 1 + 1) _ := h3.step (x := 13) (by omega) fun s' h' => by
    rw [next_plain h']
    exact ⟨rfl, rfl, by show s'.row ++ [s'.cell] = _; rw [h'.row, h'.cell], h'.rows, h'.count, h'.width, h'.fault, h'.all⟩
  have h5 : At .fresh [] [] [List.replicate n [] ++ [l] ++ [[122]]] 1 (n + 2) (n + 1 + 2 * l.length + 1 + 1 + 1 + 1 + 1) _ := h4.step (x := 10) (by omega) fun s' h' => by
    rw [next_back h']
    show At .fresh _ _ _ _ _ _ (s'.endRow s'.ml s'.mc)
    have hw : s'.widen = { s' with width := s'.row.length } := by unfold RS.widen; rw [if_pos h'.count]
    unfold RS.endRow
    rw [hw, if_pos rfl]
    exact ⟨rfl, h'.cell, rfl, by show s'.rows ++ [s'.row] = _; rw [h'.rows, h'.row]; rfl, by show s'.count + 1 = 1; rw [h'.count], by show s'.row.length = _; rw [h'.row]; simp, h'.fault, h'.all⟩
  have e : RS.new.feed (Qt n l) = ((((RS.step (RS.new.feed (List.replicate n 44 ++ (34 :: esc l))) 34).step 44).step 122).step 13).step 10 := by
    unfold Qt
    rw [feed_app, feed_cons h0.fault, feed_cons h1.fault, feed_cons h2.fault, feed_cons h3.fault, feed_cons h4.fault]
    rfl
  unfold parseO
  rw [e]
  have hf : ∀ s : RS, At .fresh [] [] [List.replicate n [] ++ [l] ++ [[122]]] 1 (n + 2) (n + 1 + 2 * l.length + 1 + 1 + 1 + 1 + 1) s → (if s.fault ≠ none then (([] : Rows), s.fault) else if (RS.fin { s with rows := [] }).fault ≠ none then ([], (RS.fin { s with rows := [] }).fault) else (s.rows ++ (RS.fin { s with rows := [] }).rows, none)) = ([List.replicate n [] ++ [l, [122]]], none) := by
    intro s h
    have hfin : RS.fin { s with rows := [] } = { s with rows := [] } := by
      unfold RS.fin
      rw [if_pos h.fault]
      unfold RS.over
      show (match s.md with | .fresh => _ | .start => _ | .plain => _ | .closed => _ | .quoted => _ | .back => _) = _
      rw [h.md]
    rw [if_neg (by rw [h.fault]; simp), hfin, if_neg (by show ¬ s.fault ≠ none; rw [h.fault]; simp), h.rows]
    simp
  exact hf _ h5
theorem quoted_bad (n : Nat) (hn : n ≤ 60) (l1 l2 : List UInt8) (x : UInt8) (ho : ∀ y ∈ l1, okB y = true) (hx : okB x = false) (hl : l1.length ≤ 4096) : ∃ p q, parseO (Qt n (l1 ++ x :: l2)) = ([], some (p, q, 4)) := by
  have h0 := upto n hn l1 ho hl
  have hx34 : x ≠ 34 := by rintro rfl; exact absurd hx (by decide)
  obtain ⟨p, q, hf⟩ := step_fault (x := x) (e := 4) h0 (by omega) fun s' h' => by
    rw [next_quoted h']
    unfold RS.quoted
    rw [if_neg hx34, if_pos hx]
    exact ⟨_, _, rfl⟩
  refine ⟨p, q, parse_fault ?_⟩
  have e : Qt n (l1 ++ x :: l2) = (List.replicate n 44 ++ (34 :: esc l1)) ++ (x :: (esc l2 ++ [34, 44, 122, 13, 10])) := by
    unfold Qt
    rw [esc_app]
    have : esc (x :: l2) = x :: esc l2 := by conv => lhs; unfold esc; rw [if_neg hx34]
    rw [this]
    simp
  rw [e, feed_app, feed_cons h0.fault]
  exact fault_on hf
theorem quoted_long (n : Nat) (hn : n ≤ 60) (l1 l2 : List UInt8) (x : UInt8) (ho : ∀ y ∈ l1, okB y = true) (hl : l1.length = 4096) : ∃ p q e, (e = 4 ∨ e = 5) ∧ parseO (Qt n (l1 ++ x :: l2)) = ([], some (p, q, e)) := by
  by_cases hx : okB x = false
  · obtain ⟨p, q, h⟩ := quoted_bad n hn l1 l2 x ho hx (by omega)
    exact ⟨p, q, 4, .inl rfl, h⟩
  · have hx' : okB x = true := by simpa using hx
    have h0 := upto n hn l1 ho (by omega)
    by_cases e : x = 34
    · subst e
      have h1 : At .closed l1 (List.replicate n []) [] 0 0 (n + 1 + 2 * l1.length + 1) (RS.step (RS.new.feed (List.replicate n 44 ++ (34 :: esc l1))) 34) := h0.step (by omega) fun s' h' => by
        rw [next_quoted h']
        exact h'.turn .closed
      obtain ⟨p, q, hf⟩ := step_fault (x := 34) (e := 5) h1 (by omega) fun s' h' => by
        rw [next_closed h']
        exact put_full (h'.turn .quoted) hl
      refine ⟨p, q, 5, .inr rfl, parse_fault ?_⟩
      have e : Qt n (l1 ++ 34 :: l2) = (List.replicate n 44 ++ (34 :: esc l1)) ++ (34 :: 34 :: (esc l2 ++ [34, 44, 122, 13, 10])) := by
        unfold Qt
        rw [esc_app]
        have : esc (34 :: l2) = 34 :: 34 :: esc l2 := by conv => lhs; unfold esc; rw [if_pos rfl]
        rw [this]
        simp
      rw [e, feed_app, feed_cons h0.fault, feed_cons h1.fault]
      exact fault_on hf
    · obtain ⟨p, q, hf⟩ := step_fault (x := x) (e := 5) h0 (by omega) fun s' h' => by
        rw [next_quoted h']
        unfold RS.quoted
        rw [if_neg e, if_neg (by rw [hx']; decide)]
        exact put_full h' hl
      refine ⟨p, q, 5, .inr rfl, parse_fault ?_⟩
      have e : Qt n (l1 ++ x :: l2) = (List.replicate n 44 ++ (34 :: esc l1)) ++ (x :: (esc l2 ++ [34, 44, 122, 13, 10])) := by
        unfold Qt
        rw [esc_app]
        have : esc (x :: l2) = x :: esc l2 := by conv => lhs; unfold esc; rw [if_neg e]
        rw [this]
        simp
      rw [e, feed_app, feed_cons h0.fault]
      exact fault_on hf
end Go.Proofs.YtappphffbnkloaaGreatDoor.Sht.Qd
