/- What is read can be printed, and its text is no longer than what was read, but for a line's end. -/
import Derived.Test.YtappphffbnkloaaGreatDoorShtPo
import Derived.Test.YtappphffbnkloaaGreatDoorShtPp
set_option linter.unusedVariables false
set_option linter.unusedSimpArgs false
namespace Go.Proofs.YtappphffbnkloaaGreatDoor.Sht
open Qd
def preO (s : RS) : Nat := (textO s.rows).length + (cellsO s.row).length + (if s.row = [] then 0 else 1)
theorem esc_ge : ∀ l : List UInt8, l.length ≤ (esc l).length
  | [] => Nat.le_refl _
  | x :: l => by
    have := esc_ge l
    unfold esc
    split <;> simp <;> omega
theorem cellO_len (c : List UInt8) : (cellO c).length ≤ (esc c).length + 2 := by
  have := esc_ge c
  unfold cellO
  split
  · simp
  · omega
theorem cellO_plain (c : List UInt8) (h : ∀ x ∈ c, spec x = false) : cellO c = c := by
  unfold cellO
  rw [if_neg]
  rw [Bool.not_eq_true, List.any_eq_false]
  intro x hx
  simp [h x hx]
theorem cells_snoc_len (s : RS) (c : List UInt8) : (textO s.rows).length + (cellsO (s.row ++ [c])).length = preO s + (cellO c).length := by
  unfold preO
  rw [cellsO_snoc]
  by_cases h : s.row = []
  · simp [h]; omega
  · simp [h]; omega
def MdOk (a : Nat) (s : RS) : Md → Prop
  | .fresh => s.cell = [] ∧ s.row = [] ∧ (textO s.rows).length ≤ a
  | .start => s.cell = [] ∧ s.row.length ≤ 63 ∧ preO s ≤ a ∧ s.count ≤ 4095
  | .plain => s.row.length ≤ 63 ∧ (∀ x ∈ s.cell, spec x = false) ∧ preO s + s.cell.length ≤ a ∧ s.count ≤ 4095
  | .quoted => s.row.length ≤ 63 ∧ preO s + 1 + (esc s.cell).length ≤ a ∧ s.count ≤ 4095
  | .closed => s.row.length ≤ 63 ∧ preO s + 2 + (esc s.cell).length ≤ a ∧ s.count ≤ 4095
  | .back => s.cell = [] ∧ 0 < s.row.length ∧ s.row.length ≤ 64 ∧ (textO s.rows).length + (cellsO s.row).length + 1 ≤ a ∧ s.count ≤ 4095
/-- what holds of a reader without a fault, `a` bytes having come -/
structure Gd (a : Nat) (s : RS) : Prop where
  num : s.rows.length = s.count
  few : s.count ≤ 4096
  good : ∀ r ∈ s.rows, RowOk s.width r
  row : ∀ c ∈ s.row, c.length ≤ 4096 ∧ ∀ x ∈ c, okB x = true
  cell : s.cell.length ≤ 4096 ∧ ∀ x ∈ s.cell, okB x = true
  md : MdOk a s s.md
section
variable {a : Nat} {s : RS} {x : UInt8}
theorem gd_new : Gd 0 RS.new := ⟨rfl, by decide, by simp [RS.new], by simp [RS.new], by simp [RS.new], rfl, rfl, Nat.le_refl _⟩
/-- a cell and its end -/
structure Ec (a : Nat) (s : RS) : Prop where
  row : s.row.length ≤ 63
  len : preO s + (cellO s.cell).length ≤ a
  count : s.count ≤ 4095
theorem row_app (h : Gd a s) : ∀ c ∈ s.row ++ [s.cell], c.length ≤ 4096 ∧ ∀ x ∈ c, okB x = true := fun c hc => by
  rcases List.mem_append.1 hc with hc | hc
  · exact h.row c hc
  · rw [List.mem_singleton.1 hc]; exact h.cell
theorem gd_comma (h : Gd a s) (e : Ec a s) (hf : s.comma.fault = none) : Gd (a + 1) s.comma := by
  unfold RS.comma at hf ⊢
  by_cases h64 : s.endCell.row.length = 64
  · rw [if_pos h64] at hf; cases hf
  · rw [if_neg h64]
    have hlen := cells_snoc_len s s.cell
    have e1 := e.len
    have hr : (s.row ++ [s.cell]).length ≤ 63 := by
      have h1 : (s.row ++ [s.cell]).length ≠ 64 := h64
      have h2 := e.row
      simp at h1 ⊢; omega
    refine ⟨h.num, h.few, h.good, row_app h, ⟨by show ([] : List UInt8).length ≤ _; simp, fun y hy => by cases hy⟩, rfl, hr, ?_, e.count⟩
    show (textO s.rows).length + (cellsO (s.row ++ [s.cell])).length + (if s.row ++ [s.cell] = [] then 0 else 1) ≤ _
    rw [if_neg (by simp)]; omega
theorem gd_cr (h : Gd a s) (e : Ec a s) : Gd (a + 1) s.cr := by
  have hlen := cells_snoc_len s s.cell
  have e1 := e.len
  have e2 := e.row
  refine ⟨h.num, h.few, h.good, row_app h, ⟨by show ([] : List UInt8).length ≤ _; simp, fun y hy => by cases hy⟩, rfl, by show 0 < (s.row ++ [s.cell]).length; simp, by show (s.row ++ [s.cell]).length ≤ _; simp; omega, ?_, e.count⟩
  show (textO s.rows).length + (cellsO (s.row ++ [s.cell])).length + 1 ≤ _
  omega
theorem widen_parts (s : RS) : s.widen.row = s.row ∧ s.widen.rows = s.rows ∧ s.widen.count = s.count ∧ s.widen.cell = s.cell ∧ s.widen.fault = s.fault ∧ (s.count = 0 → s.widen.width = s.row.length) ∧ (s.count ≠ 0 → s.widen.width = s.width) := by
  unfold RS.widen
  by_cases h : s.count = 0
  · rw [if_pos h]; exact ⟨rfl, rfl, rfl, rfl, rfl, fun _ => rfl, fun k => absurd h k⟩
  · rw [if_neg h]; exact ⟨rfl, rfl, rfl, rfl, rfl, fun k => absurd k h, fun _ => rfl⟩
theorem gd_endRow (hn : s.rows.length = s.count) (hg : ∀ r ∈ s.rows, RowOk s.width r) (hr : ∀ c ∈ s.row, c.length ≤ 4096 ∧ ∀ x ∈ c, okB x = true) (hc : s.cell = []) (h1 : 0 < s.row.length) (h2 : s.row.length ≤ 64) (h3 : (textO s.rows).length + (cellsO s.row).length + 2 ≤ a) (h4 : s.count ≤ 4095) (l c : Nat) (hf : (s.endRow l c).fault = none) :
    Gd a (s.endRow l c) ∧ (s.endRow l c).md = .fresh := by
  obtain ⟨w1, w2, w3, w4, w5, w6, w7⟩ := widen_parts s
  unfold RS.endRow at hf ⊢
  by_cases hw : s.widen.row.length = s.widen.width
  · rw [if_pos hw]
    refine ⟨⟨?_, ?_, ?_, by show ∀ c ∈ ([] : List (List UInt8)), _; simp, ?_, ?_, rfl, ?_⟩, rfl⟩
    · show (s.widen.rows ++ [s.widen.row]).length = s.widen.count + 1; rw [w2, w3]; simp; exact hn
    · show s.widen.count + 1 ≤ _; rw [w3]; omega
    · show ∀ r ∈ s.widen.rows ++ [s.widen.row], RowOk s.widen.width r
      intro r hr'
      rw [w1, w2] at hr'
      rcases List.mem_append.1 hr' with q | q
      · have h0 : s.count ≠ 0 := fun e => by
          have : s.rows = [] := List.eq_nil_of_length_eq_zero (hn.trans e)
          rw [this] at q; cases q
        rw [w7 h0]; exact hg r q
      · rw [List.mem_singleton.1 q]
        exact ⟨h1, h2, by rw [← hw, w1], hr⟩
    · show s.widen.cell.length ≤ 4096 ∧ _
      rw [show s.widen.newRow.cell = [] from w4.trans hc, show s.widen.cell = [] from w4.trans hc]
      exact ⟨by simp, fun y hy => by cases hy⟩
    · exact w4.trans hc
    · show (textO (s.widen.rows ++ [s.widen.row])).length ≤ a
      rw [w1, w2, textO_snoc]
      unfold rowO
      simp only [List.length_append, List.length_cons, List.length_nil]; omega
  · rw [if_neg hw] at hf; cases hf
theorem gd_put_plain (h : Gd a s) (hm : s.md = .plain) (hr : s.row.length ≤ 63) (hs : ∀ y ∈ s.cell, spec y = false) (hl : preO s + s.cell.length ≤ a) (hc : s.count ≤ 4095) (ho : okB x = true) (hx : spec x = false) (hf : (s.put x).fault = none) : Gd (a + 1) (s.put x) := by
  unfold RS.put at hf ⊢
  by_cases hb : 4096 < (s.cell ++ [x]).length
  · rw [if_pos hb] at hf; cases hf
  · rw [if_neg hb]
    refine ⟨h.num, h.few, h.good, h.row, ⟨by show (s.cell ++ [x]).length ≤ 4096; omega, fun y hy => ?_⟩, ?_⟩
    · rcases List.mem_append.1 hy with q | q
      · exact h.cell.2 y q
      · rw [List.mem_singleton.1 q]; exact ho
    · show MdOk _ _ s.md
      rw [hm]
      refine ⟨hr, fun y hy => ?_, ?_, hc⟩
      · rcases List.mem_append.1 hy with q | q
        · exact hs y q
        · rw [List.mem_singleton.1 q]; exact hx
      · show preO s + (s.cell ++ [x]).length ≤ _; simp; omega
theorem gd_put_quoted (h : Gd a s) (hm : s.md = .quoted) (hr : s.row.length ≤ 63) (b : Nat) (hl : preO s + 1 + (esc (s.cell ++ [x])).length ≤ b) (hc : s.count ≤ 4095) (ho : okB x = true) (hf : (s.put x).fault = none) : Gd b (s.put x) := by
  unfold RS.put at hf ⊢
  by_cases hb : 4096 < (s.cell ++ [x]).length
  · rw [if_pos hb] at hf; cases hf
  · rw [if_neg hb]
    refine ⟨h.num, h.few, h.good, h.row, ⟨by show (s.cell ++ [x]).length ≤ 4096; omega, fun y hy => ?_⟩, ?_⟩
    · rcases List.mem_append.1 hy with q | q
      · exact h.cell.2 y q
      · rw [List.mem_singleton.1 q]; exact ho
    · show MdOk _ _ s.md
      rw [hm]
      exact ⟨hr, hl, hc⟩
theorem spec_of {x : UInt8} (h1 : x ≠ 44) (h2 : x ≠ 13) (h3 : x ≠ 10) (h4 : x ≠ 34) (h5 : x ≠ 9) : spec x = false := by
  unfold spec; simp [h1, h2, h3, h4, h5]
theorem gd_plain (h : Gd a s) (hr : s.row.length ≤ 63) (hs : ∀ y ∈ s.cell, spec y = false) (hl : preO s + s.cell.length ≤ a) (hc : s.count ≤ 4095) (hm : s.md = .plain) (hf : (s.plain x).fault = none) : Gd (a + 1) (s.plain x) := by
  have e : Ec a s := ⟨hr, by rw [cellO_plain _ hs]; exact hl, hc⟩
  unfold RS.plain at hf ⊢
  by_cases h1 : x = 44
  · rw [if_pos h1] at hf ⊢; exact gd_comma h e hf
  rw [if_neg h1] at hf ⊢
  by_cases h2 : x = 13
  · rw [if_pos h2]; exact gd_cr h e
  rw [if_neg h2] at hf ⊢
  by_cases h3 : x = 10
  · rw [if_pos h3] at hf; cases hf
  rw [if_neg h3] at hf ⊢
  by_cases h4 : x = 34
  · rw [if_pos h4] at hf; cases hf
  rw [if_neg h4] at hf ⊢
  by_cases h5 : x = 9 ∨ okB x = false
  · rw [if_pos h5] at hf; cases hf
  rw [if_neg h5] at hf ⊢
  simp only [not_or, Bool.not_eq_false] at h5
  exact gd_put_plain h hm hr hs hl hc h5.2 (spec_of h1 h2 h3 h4 h5.1) hf
theorem gd_start (h : Gd a s) (hcell : s.cell = []) (hr : s.row.length ≤ 63) (hl : preO s ≤ a) (hc : s.count ≤ 4095) (hf : (s.start x).fault = none) : Gd (a + 1) (s.start x) := by
  unfold RS.start at hf ⊢
  by_cases h1 : x = 34
  · rw [if_pos h1]
    refine ⟨h.num, h.few, h.good, h.row, h.cell, hr, ?_, hc⟩
    show preO s + 1 + (esc s.cell).length ≤ _
    rw [hcell]; show preO s + 1 + 0 ≤ _; omega
  · rw [if_neg h1] at hf ⊢
    have hp : ∀ y ∈ s.cell, spec y = false := fun y hy => by rw [hcell] at hy; cases hy
    have hl' : preO s + s.cell.length ≤ a := by rw [hcell]; simpa using hl
    have ht : Gd a (s.turn .plain) := ⟨h.num, h.few, h.good, h.row, h.cell, hr, hp, hl', hc⟩
    exact gd_plain ht hr hp hl' hc rfl hf
theorem gd_next (h : Gd a s) (hf : (s.next x).fault = none) : Gd (a + 1) (s.next x) := by
  have hmd := h.md
  revert hf
  rcases next_cases s x with ⟨m, e⟩ | ⟨m, e⟩ | ⟨m, e⟩ | ⟨m, e⟩ | ⟨m, e⟩ | ⟨m, e⟩ <;> rw [e] <;> rw [m] at hmd <;> intro hf
  · obtain ⟨c1, c2, c3⟩ := hmd
    unfold RS.fresh at hf ⊢
    by_cases h1 : s.count = 4096
    · rw [if_pos h1] at hf; cases hf
    · rw [if_neg h1] at hf ⊢
      have := h.few
      exact gd_start h c1 (by rw [c2]; simp) (by unfold preO; rw [c2]; simpa [cellsO] using c3) (by omega) hf
  · obtain ⟨c1, c2, c3, c4⟩ := hmd
    exact gd_start h c1 c2 c3 c4 hf
  · obtain ⟨c1, c2, c3, c4⟩ := hmd
    exact gd_plain h c1 c2 c3 c4 m hf
  · obtain ⟨c1, c2, c3⟩ := hmd
    unfold RS.quoted at hf ⊢
    by_cases h1 : x = 34
    · rw [if_pos h1]
      refine ⟨h.num, h.few, h.good, h.row, h.cell, c1, ?_, c3⟩
      show preO s + 2 + (esc s.cell).length ≤ _; omega
    · rw [if_neg h1] at hf ⊢
      by_cases h2 : okB x = false
      · rw [if_pos h2] at hf; cases hf
      · rw [if_neg h2] at hf ⊢
        refine gd_put_quoted h m c1 (a + 1) ?_ c3 (by simpa using h2) hf
        rw [esc_app]
        have : esc [x] = [x] := by unfold esc; rw [if_neg h1]; rfl
        rw [this]; simp; omega
  · obtain ⟨c1, c2, c3⟩ := hmd
    have ec : Ec a s := ⟨c1, by have := cellO_len s.cell; omega, c3⟩
    unfold RS.closed at hf ⊢
    by_cases h1 : x = 34
    · rw [if_pos h1] at hf ⊢
      have ht : Gd a (s.turn .quoted) := ⟨h.num, h.few, h.good, h.row, h.cell, c1, by show preO s + 1 + (esc s.cell).length ≤ a; omega, c3⟩
      refine gd_put_quoted ht rfl c1 (a + 1) ?_ c3 (by rw [h1]; decide) hf
      show preO s + 1 + (esc (s.cell ++ [x])).length ≤ _
      rw [esc_app]
      have : esc [x] = [34, 34] := by unfold esc; rw [if_pos h1]; rfl
      rw [this]; simp; omega
    rw [if_neg h1] at hf ⊢
    by_cases h2 : x = 44
    · rw [if_pos h2] at hf ⊢; exact gd_comma h ec hf
    rw [if_neg h2] at hf ⊢
    by_cases h3 : x = 13
    · rw [if_pos h3]; exact gd_cr h ec
    rw [if_neg h3] at hf ⊢
    by_cases h4 : x = 10
    · rw [if_pos h4] at hf; cases hf
    · rw [if_neg h4] at hf; cases hf
  · obtain ⟨c1, c2, c3, c4, c5⟩ := hmd
    unfold RS.back at hf ⊢
    by_cases h1 : x = 10
    · rw [if_pos h1] at hf ⊢
      exact (gd_endRow h.num h.good h.row c1 c2 c3 (by omega) c5 _ _ hf).1
    · rw [if_neg h1] at hf; cases hf
theorem gd_step (h : Gd a s) (hf : (s.step x).fault = none) : Gd (a + 1) (s.step x) := by
  by_cases hn : s.all = 262144
  · rw [RS.step, if_pos hn] at hf; cases hf
  · rw [step_on hn] at hf ⊢
    rw [on_fault] at hf
    have h1 : Gd a { s with all := s.all + 1 } := ⟨h.num, h.few, h.good, h.row, h.cell, by have := h.md; revert this; show MdOk a s s.md → MdOk a { s with all := s.all + 1 } s.md; cases s.md <;> exact id⟩
    have h2 := gd_next h1 hf
    have go : ∀ t : RS, Gd (a + 1) t → Gd (a + 1) (t.on x) := fun t h => by
      have hm := h.md
      unfold RS.on
      split
      · exact ⟨h.num, h.few, h.good, h.row, h.cell, by revert hm; show MdOk _ t t.md → MdOk _ { t with line := t.line + 1, col := 0 } t.md; cases t.md <;> exact id⟩
      · exact ⟨h.num, h.few, h.good, h.row, h.cell, by revert hm; show MdOk _ t t.md → MdOk _ { t with col := t.col + 1 } t.md; cases t.md <;> exact id⟩
    exact go _ h2
end
theorem gd_feed : ∀ (l : List UInt8) (a : Nat) (s : RS), Gd a s → s.fault = none → (s.feed l).fault = none → Gd (a + l.length) (s.feed l)
  | [], a, s, h, _, _ => h
  | x :: l, a, s, h, h0, hf => by
    rw [feed_cons h0] at hf ⊢
    have h1 : (s.step x).fault = none := by
      cases hq : (s.step x).fault with
      | none => rfl
      | some f => rw [feed_stop (by rw [hq]; simp), hq] at hf; cases hf
    have := gd_feed l _ _ (gd_step h h1) h1 hf
    rw [List.length_cons, show a + (l.length + 1) = a + 1 + l.length by omega]
    exact this
theorem gd_over {a : Nat} {s : RS} (h : Gd a s) (hf : s.over.fault = none) : (s.over.rows.length ≤ 4096 ∧ (∀ r ∈ s.over.rows, RowOk s.over.width r) ∧ (textO s.over.rows).length ≤ a + 2) := by
  have hmd := h.md
  have key : Ec a s → (s.endCell.endRow s.line s.col).fault = none → ((s.endCell.endRow s.line s.col).rows.length ≤ 4096 ∧ (∀ r ∈ (s.endCell.endRow s.line s.col).rows, RowOk (s.endCell.endRow s.line s.col).width r) ∧ (textO (s.endCell.endRow s.line s.col).rows).length ≤ a + 2) := fun e hf => by
    have hlen := cells_snoc_len s s.cell
    have e1 := e.len
    have e2 := e.row
    obtain ⟨g, hm⟩ := gd_endRow (a := a + 2) (s := s.endCell) h.num h.good (row_app h) rfl (by show 0 < (s.row ++ [s.cell]).length; simp) (by show (s.row ++ [s.cell]).length ≤ _; simp; omega) (by show (textO s.rows).length + (cellsO (s.row ++ [s.cell])).length + 2 ≤ _; omega) e.count _ _ hf
    have := g.md
    rw [hm] at this
    exact ⟨by rw [g.num]; exact g.few, g.good, this.2.2⟩
  unfold RS.over at hf ⊢
  cases hm : s.md <;> rw [hm] at hf hmd <;> simp only at hf ⊢
  · exact ⟨by rw [h.num]; exact h.few, h.good, Nat.le_trans hmd.2.2 (by omega)⟩
  · exact key ⟨hmd.2.1, by rw [hmd.1]; show preO s + ([] : List UInt8).length ≤ a; have := hmd.2.2.1; simpa using this, hmd.2.2.2⟩ hf
  · exact key ⟨hmd.1, by rw [cellO_plain _ hmd.2.1]; exact hmd.2.2.1, hmd.2.2.2⟩ hf
  · cases hf
  · exact key ⟨hmd.1, by have := cellO_len s.cell; have := hmd.2.1; omega, hmd.2.2⟩ hf
  · cases hf
theorem fin_bare (s : RS) : s.fin.rows = s.rows ++ (RS.fin { s with rows := [] }).rows ∧ s.fin.fault = (RS.fin { s with rows := [] }).fault := by
  have h := pre_fin s.rows s.bare
  rw [bare_pre] at h
  rw [h]
  exact ⟨rfl, rfl⟩
theorem parse_good (l : List UInt8) (rs : Rows) (h : parseO l = (rs, none)) : checkO rs = none ∧ (textO rs).length ≤ l.length + 2 := by
  unfold parseO at h
  by_cases h0 : (RS.new.feed l).fault = none
  · rw [if_neg (by rw [h0]; simp)] at h
    obtain ⟨e1, e2⟩ := fin_bare (RS.new.feed l)
    by_cases h1 : (RS.fin { RS.new.feed l with rows := [] }).fault = none
    · rw [if_neg (by rw [h1]; simp), ← e1] at h
      have hrs := (Prod.mk.inj h).1
      have g := gd_feed l 0 RS.new gd_new rfl h0
      rw [Nat.zero_add] at g
      rw [h1] at e2
      unfold RS.fin at hrs e2
      rw [if_pos h0] at hrs e2
      obtain ⟨g1, g2, g3⟩ := gd_over g e2
      rw [hrs] at g1 g2 g3
      refine ⟨(checkO_none rs).2 ⟨g1, ?_⟩, g3⟩
      cases rs with
      | nil => intro r hr; cases hr
      | cons r0 rs =>
        have hw := (g2 r0 List.mem_cons_self).wid
        intro r hr
        simp only [List.headD_cons]
        rw [hw]
        exact g2 r hr
    · rw [if_pos h1] at h
      exact absurd (Prod.mk.inj h).2 h1
  · rw [if_pos h0] at h
    exact absurd (Prod.mk.inj h).2 h0
end Go.Proofs.YtappphffbnkloaaGreatDoor.Sht
