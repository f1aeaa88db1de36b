/- The reference's rows and texts are the machine's. -/
import Derived.Test.YtappphffbnkloaaGreatDoorShtT
set_option linter.unusedVariables false
set_option linter.unusedSimpArgs false
namespace Go.Proofs.YtappphffbnkloaaGreatDoor.Sht
open Go Go.RowKit Go.Proofs.YtappphffbnkloaaGreatDoorW.PrintWords Go.Proofs.YtappphffbnkloaaGreatDoor.GS
variable (t : ByteArray)
abbrev Row7 := List ByteArray × Int × Int × Int × Int × Int × Int
def txs (l : List (List UInt8)) : List ByteArray := l.map tx
theorem txs_len (l : List (List UInt8)) : (txs l).length = l.length := by simp [txs]
theorem txs_snoc (l : List (List UInt8)) (x : List UInt8) : txs l ++ [tx x] = txs (l ++ [x]) := by simp [txs]
def okR (row : List (List UInt8)) (q : Nat) : Row7 := (txs row, (q : Int), 0, 0, 0, 0, 0)
def badR (c q : Nat) : Row7 := (([] : List ByteArray), 0, (plc t c q).1, (plc t c q).2.1, (plc t c q).2.2.1, (plc t c q).2.2.2.1, (plc t c q).2.2.2.2)
/-- what a row leaves of the state -/
structure Sr (s s' : RS) : Prop where
  rows : s'.rows = s.rows
  count : s'.count = s.count
  width : s'.width = s.width
theorem Sr.trans {a b c : RS} (h : Sr a b) (k : Sr b c) : Sr a c := ⟨k.rows.trans h.rows, k.count.trans h.count, k.width.trans h.width⟩
theorem Sm.sr {a b : RS} (h : Sm a b) : Sr a b := ⟨h.rows, h.count, h.width⟩
def RR (s : RS) (p : Nat) (r : Row7) : Prop :=
  (∃ row q s', r = okR row q ∧ Reach t s' q ∧ Sr s s' ∧ Cd t s' q ∧ s'.row ++ [s'.cell] = row ∧ row.length ≤ 64 ∧ p ≤ q ∧ (q = (L8 t).length ∨ ∃ h : q < (L8 t).length, (L8 t)[q] = 13)) ∨
  (∃ c q, c ≠ 0 ∧ r = badR t c q ∧ Bad t s.rows c q)
theorem RR.of {s s' : RS} {p p' : Nat} {r : Row7} (h : RR t s' p' r) (k : Sr s s') (hp : p ≤ p') : RR t s p r := by
  rcases h with ⟨row, q, s2, h1, h2, h3, h4, h5, h6, h7, h8⟩ | ⟨c, q, h1, h2, h3⟩
  · exact .inl ⟨row, q, s2, h1, h2, k.trans h3, h4, h5, h6, by omega, h8⟩
  · exact .inr ⟨c, q, h1, h2, by rw [← k.rows]; exact h3⟩
theorem row_l (hn : (L8 t).length ≤ 262144) : ∀ (d p : Nat) (s : RS), (L8 t).length - p ≤ d → Reach t s p → Beg t s p → s.cell = [] → s.row.length ≤ 63 →
    ∃ r, Ev (fun k => larderref04_row.l0 k t (txs s.row) p true) r ∧ RR t s p r := by
  intro d
  induction d with
  | zero =>
    intro p s hd hr hb hc hl
    -- the text's end: one cell more
    have hsz := L8_len t
    have hp : p = (L8 t).length := by have := hr.le; omega
    obtain ⟨r, h1, h2⟩ := cell_ev t hn p s hr hb hc
    rcases h2 with ⟨text, q, s2, rfl, hr2, sm, hcd, hc2, hl2, hpq, hend⟩ | ⟨c, q, hc0, rfl, hbad⟩
    · have hq : q = (L8 t).length := by have := hr2.le; omega
      refine ⟨okR (s.row ++ [text]) q, ?_, .inl ⟨_, q, s2, rfl, hr2, sm.sr, hcd, by rw [sm.row, hc2], by simp; omega, hpq, .inl hq⟩⟩
      refine Ev.succ (fun k => larderref04_row.l0.eq_2 ..) (Ev.pos rfl (Ev.bind h1 (Ev.pos rfl (Ev.pos (by rw [txs_len]; omega) (Ev.bind1 rfl (Ev.neg (by show ¬ (q : Int) < _; omega) ?_))))))
      show Ev (fun k => larderref04_row.j1 k t (txs s.row ++ [tx text]) (q : Int) false) _
      rw [txs_snoc]
      exact Ev.succ (fun k => larderref04_row.j1.eq_2 ..) (Ev.neg (by decide) (Ev.succ (fun k => larderref04_row.j2.eq_2 ..) (Ev.neg (by decide) (Ev.neg (by decide) (Ev.succ (fun k => larderref04_row.l0.eq_2 ..) (Ev.neg (by decide) Ev.here))))))
    · exact ⟨badR t c q, Ev.succ (fun k => larderref04_row.l0.eq_2 ..) (Ev.pos rfl (Ev.bind h1 (Ev.neg (by show ¬ (c : Int) = 0; omega) Ev.here))), .inr ⟨c, q, hc0, rfl, hbad⟩⟩
  | succ d ih =>
    intro p s hd hr hb hc hl
    have hsz := L8_len t
    obtain ⟨r, h1, h2⟩ := cell_ev t hn p s hr hb hc
    rcases h2 with ⟨text, q, s2, rfl, hr2, sm, hcd, hc2, hl2, hpq, hend⟩ | ⟨c, q, hc0, rfl, hbad⟩
    · have hrow : s2.row ++ [s2.cell] = s.row ++ [text] := by rw [sm.row, hc2]
      have hql := hr2.le
      -- the row ends
      have stop : (q = (L8 t).length ∨ ∃ h : q < (L8 t).length, (L8 t)[q] = 13) → ∃ r, Ev (fun k => larderref04_row.l0 k t (txs s.row) p true) r ∧ RR t s p r := by
        intro he
        refine ⟨okR (s.row ++ [text]) q, ?_, .inl ⟨_, q, s2, rfl, hr2, sm.sr, hcd, hrow, by simp; omega, hpq, he⟩⟩
        have tail : Ev (fun k => larderref04_row.j1 k t (txs s.row ++ [tx text]) (q : Int) false) (okR (s.row ++ [text]) q) := by
          rw [txs_snoc]
          exact Ev.succ (fun k => larderref04_row.j1.eq_2 ..) (Ev.neg (by decide) (Ev.succ (fun k => larderref04_row.j2.eq_2 ..) (Ev.neg (by decide) (Ev.neg (by decide) (Ev.succ (fun k => larderref04_row.l0.eq_2 ..) (Ev.neg (by decide) Ev.here))))))
        refine Ev.succ (fun k => larderref04_row.l0.eq_2 ..) (Ev.pos rfl (Ev.bind h1 (Ev.pos rfl (Ev.pos (by rw [txs_len]; omega) (Ev.bind1 rfl ?_)))))
        rcases he with he | ⟨hq, h13⟩
        · exact Ev.neg (by show ¬ (q : Int) < _; omega) tail
        · refine Ev.pos (by show (q : Int) < _; omega) (Ev.pos (by show (0 : Int) ≤ q; omega) ?_)
          have e2 : (bt t (okQ text q).2.1 == 44) = false := by
            show (bt t (q : Int) == 44) = false
            rw [(bt_is t q hq 13).2 h13]; rfl
          rw [e2]
          exact tail
      rcases hend with he | ⟨hq, h44 | h13⟩
      · exact stop (.inl he)
      · -- a comma
        have go : ∀ {r' : Row7}, Ev (fun k => larderref04_row.j2 k t (txs (s.row ++ [text])) (q : Int) true (((txs (s.row ++ [text])).length : Int) == 64)) r' → Ev (fun k => larderref04_row.l0 k t (txs s.row) p true) r' := by
          intro r' h
          refine Ev.succ (fun k => larderref04_row.l0.eq_2 ..) (Ev.pos rfl (Ev.bind h1 (Ev.pos rfl (Ev.pos (by rw [txs_len]; omega) (Ev.bind1 rfl (Ev.pos (by show (q : Int) < _; omega) (Ev.pos (by show (0 : Int) ≤ q; omega) ?_)))))))
          have e2 : (bt t (okQ text q).2.1 == 44) = true := by
            show (bt t (q : Int) == 44) = true
            rw [(bt_is t q hq 44).2 h44]; rfl
          rw [e2]
          show Ev (fun k => larderref04_row.j1 k t (txs s.row ++ [tx text]) (q : Int) true) _
          rw [txs_snoc]
          exact Ev.succ (fun k => larderref04_row.j1.eq_2 ..) (Ev.pos rfl h)
        have hnx := next_comma t hcd (L8 t)[q] h44
        have hlen : (up s2).endCell.row.length = s.row.length + 1 := by
          show (s2.row ++ [s2.cell]).length = _
          rw [hrow]; simp
        by_cases h64 : s.row.length + 1 = 64
        · refine ⟨badR t 6 q, go ?_, .inr ⟨6, q, by omega, rfl, ?_⟩⟩
          · have e2 : (((txs (s.row ++ [text])).length : Int) == 64) = true := by rw [txs_len]; simp; omega
            rw [e2]
            exact Ev.succ (fun k => larderref04_row.j2.eq_2 ..) (Ev.pos rfl (Ev.bind (placed_ev t 6 q hql (by omega)) Ev.here))
          · rw [← sm.rows]
            exact bad_at t (s1 := (up s2).endCell.turn .start) hr2 hq hn (by rw [hnx, RS.comma, if_pos (by rw [hlen]; exact h64)]; rfl) rfl ⟨by omega, by omega, by omega⟩
        · have e4 : RS.next (up s2) (L8 t)[q] = (up s2).endCell.turn .start := by rw [hnx, RS.comma, if_neg (by rw [hlen]; exact h64)]
          have hs := (reach_step t hr2 hq hn).1 (by rw [e4]; exact hr2.ok)
          rw [e4] at hs
          obtain ⟨o1, o2, o3, o4, o5⟩ := on_same ((up s2).endCell.turn .start) (L8 t)[q]
          have hrw : (((up s2).endCell.turn .start).on (L8 t)[q]).row = s.row ++ [text] := o1.row.trans hrow
          obtain ⟨r', k1, k2⟩ := ih (q + 1) _ (by omega) hs (.inl o2) o3 (by rw [hrw]; simp; omega)
          refine ⟨r', go ?_, k2.of t (sm.sr.trans (Sr.trans (b := (up s2).endCell.turn .start) ⟨rfl, rfl, rfl⟩ o1.sr)) (by omega)⟩
          have e2 : (((txs (s.row ++ [text])).length : Int) == 64) = false := by rw [txs_len]; simp; omega
          rw [e2]
          refine Ev.succ (fun k => larderref04_row.j2.eq_2 ..) (Ev.neg (by decide) (Ev.pos rfl ?_))
          rw [w1 _ (by omega), ← hrw]
          exact k1
      · exact stop (.inr ⟨hq, h13⟩)
    · exact ⟨badR t c q, Ev.succ (fun k => larderref04_row.l0.eq_2 ..) (Ev.pos rfl (Ev.bind h1 (Ev.neg (by show ¬ (c : Int) = 0; omega) Ev.here))), .inr ⟨c, q, hc0, rfl, hbad⟩⟩
theorem wid_eq (s : RS) : s.widen.row = s.row ∧ s.widen.count = s.count ∧ s.widen.rows = s.rows := by
  unfold RS.widen
  split <;> exact ⟨rfl, rfl, rfl⟩
/-! ### the whole text -/
abbrev Txt := (List (List ByteArray)) × Int × Int × Int × Int × Int × Int
def rws (l : List (List (List UInt8))) : List (List ByteArray) := l.map txs
theorem rws_len (l : List (List (List UInt8))) : (rws l).length = l.length := by simp [rws]
theorem rws_snoc (l : List (List (List UInt8))) (x : List (List UInt8)) : rws l ++ [txs x] = rws (l ++ [x]) := by simp [rws]
def badT (rows : List (List (List UInt8))) (c q : Nat) : Txt := (rws rows, (rows.length : Int), (plc t c q).1, (plc t c q).2.1, (plc t c q).2.2.1, (plc t c q).2.2.2.1, (plc t c q).2.2.2.2)
/-- what the text comes to -/
def TR (r : Txt) : Prop :=
  (∃ rows c q, c ≠ 0 ∧ r = badT t rows c q ∧ Bad t rows c q) ∨
  (∃ (rows : List (List (List UInt8))) (n : Nat), r = (rws rows, (n : Int), 0, 0, 0, 0, 0) ∧ (RS.new.feed (L8 t)).fault = none ∧ (RS.new.feed (L8 t)).fin.fault = none ∧ (RS.new.feed (L8 t)).fin.rows = rows ∧ (RS.new.feed (L8 t)).rows = rows.take n ∧ n ≤ rows.length)
/-- between two rows -/
structure Btw (s : RS) : Prop where
  md : s.md = .fresh
  cell : s.cell = []
  row : s.row = []
  count : s.count = s.rows.length
  width : ∀ r l, s.rows = r :: l → s.width = r.length
  le : s.rows.length ≤ 4096
theorem over_cd {s : RS} {q : Nat} (h : Cd t s q) (hq : q = (L8 t).length) : s.over = s.endCell.endRow s.line s.col := by
  rcases h with h | h | h | ⟨h, _, h2⟩
  · rw [RS.over, h]
  · rw [RS.over, h]
  · rw [RS.over, h]
  · omega
theorem read_l (hn : (L8 t).length ≤ 262144) : ∀ (d p : Nat) (s : RS), (L8 t).length - p ≤ d → Reach t s p → Btw s → ∃ r, Ev (fun k => larderref04_read.l0 k t (rws s.rows) p) r ∧ TR t r := by
  intro d
  induction d with
  | zero =>
    intro p s hd hr hb
    have hsz := L8_len t
    obtain rfl : p = (L8 t).length := by have := hr.le; omega
    have he := reach_end t hr
    have hf : s.fin = s := by rw [RS.fin, if_pos hr.ok, RS.over, hb.md]
    refine ⟨_, Ev.succ (fun k => larderref04_read.l0.eq_2 ..) (Ev.neg (by omega) Ev.here), .inr ⟨s.rows, s.rows.length, by rw [rws_len], ?_, ?_, ?_, ?_, Nat.le_refl _⟩⟩
    · rw [he]; exact hr.ok
    · rw [he, hf]; exact hr.ok
    · rw [he, hf]
    · rw [he, List.take_length]
  | succ d ih =>
    intro p s hd hr hb
    have hsz := L8_len t
    by_cases hp : p < (L8 t).length
    · by_cases h4 : s.rows.length = 4096
      · refine ⟨badT t s.rows 7 p, ?_, .inl ⟨s.rows, 7, p, by omega, rfl, ?_⟩⟩
        · refine Ev.succ (fun k => larderref04_read.l0.eq_2 ..) (Ev.pos (by omega) (Ev.pos (by rw [rws_len]; omega) (Ev.bind (placed_ev t 7 p hr.le (by omega)) ?_)))
          rw [rws_len]
          exact Ev.here
        · refine bad_at t (s1 := up s) hr hp hn ?_ rfl ⟨by omega, by omega, by omega⟩
          have : (up s).md = .fresh := hb.md
          rw [RS.next, this]
          show RS.fresh (up s) (L8 t)[p] = _
          rw [RS.fresh, if_pos (show (up s).count = 4096 from hb.count.trans h4)]
          rfl
      · have hbeg : Beg t s p := .inr ⟨hb.md, by rw [hb.count]; exact h4, hp⟩
        obtain ⟨r, h1, h2⟩ := row_l t hn _ p s (Nat.le_refl _) hr hbeg hb.cell (by rw [hb.row]; simp)
        have hrf : Ev (fun k => larderref04_row.f k t p) r := by
          refine Ev.of (fun k => ?_) h1
          show larderref04_row.l0 k t ([] : List ByteArray) (p : Int) true = _
          rw [hb.row]; rfl
        have top : ∀ {r' : Txt}, Ev (fun k => (if r.2.2.1 = 0 then (if r.2.1 < (t.size : Int) then (if (wrap64 (r.2.1 + 1)) = (t.size : Int) then (larderref04_read.j1 k t (rws s.rows) r.1 r.2.1 true) else (if 0 ≤ (wrap64 (r.2.1 + 1)) then (if (wrap64 (r.2.1 + 1)) < (t.size : Int) then (larderref04_read.j1 k t (rws s.rows) r.1 r.2.1 ((bt t (wrap64 (r.2.1 + 1))) != 10)) else (none)) else (none))) else (larderref04_read.j1 k t (rws s.rows) r.1 r.2.1 false)) else (some (rws s.rows, ((rws s.rows).length : Int), r.2.2.1, r.2.2.2.1, r.2.2.2.2.1, r.2.2.2.2.2.1, r.2.2.2.2.2.2)))) r' → Ev (fun k => larderref04_read.l0 k t (rws s.rows) p) r' := by
          intro r' h
          exact Ev.succ (fun k => larderref04_read.l0.eq_2 ..) (Ev.pos (by omega) (Ev.neg (by rw [rws_len]; omega) (Ev.bind hrf h)))
        rcases h2 with ⟨row, q, s2, rfl, hr2, sr, hcd, hrow, hl2, hpq, hend⟩ | ⟨c, q, hc0, rfl, hbad⟩
        · have hql := hr2.le
          have hcount : s2.count = s.rows.length := sr.count.trans hb.count
          -- is the row as long as the first?
          have j1f : ∀ {r' : Txt}, Ev (fun k => larderref04_read.j2 k t (rws s.rows) (txs row) (q : Int) (decide (s.rows ≠ [] ∧ row.length ≠ s.width))) r' → Ev (fun k => larderref04_read.j1 k t (rws s.rows) (txs row) (q : Int) false) r' := by
            intro r' h
            refine Ev.succ (fun k => larderref04_read.j1.eq_2 ..) (Ev.neg (by decide) ?_)
            cases hrs : s.rows with
            | nil =>
              rw [hrs] at h
              refine Ev.neg (by simp [rws]) ?_
              have e : decide (([] : List (List (List UInt8))) ≠ [] ∧ row.length ≠ s.width) = false := by simp
              rw [e] at h
              exact h
            | cons a l =>
              rw [hrs] at h
              have hw := hb.width a l hrs
              refine Ev.pos (by rw [rws_len]; simp) (Ev.pos (by rw [rws_len]; simp) ?_)
              have e : (((txs row).length : Int) != ((rd_L2 (rws (a :: l)) 0).length : Int)) = decide (a :: l ≠ [] ∧ row.length ≠ s.width) := by
                have e1 : rd_L2 (rws (a :: l)) 0 = txs a := by simp [rd_L2, rws]
                rw [e1, txs_len, txs_len, hw]
                by_cases hh : row.length = a.length
                · simp [hh]
                · simp [hh]; omega
              rw [e]
              exact h
          have hwid : s2.endCell.widen.width = if s.rows = [] then row.length else s.width := by
            have hc0 : s2.endCell.count = s.rows.length := hcount
            unfold RS.widen
            by_cases hz : s.rows = []
            · rw [if_pos (by rw [hc0, hz]; rfl), if_pos hz]
              show (s2.row ++ [s2.cell]).length = _
              rw [hrow]
            · rw [if_neg (by rw [hc0]; intro e; exact hz (List.eq_nil_of_length_eq_zero e)), if_neg hz]
              exact sr.width
          have hwrow : s2.endCell.widen.row = row := by rw [(wid_eq s2.endCell).1]; exact hrow
          have hwrows : s2.endCell.widen.rows = s.rows := by rw [(wid_eq s2.endCell).2.2]; exact sr.rows
          have hwcount : s2.endCell.widen.count = s.rows.length := by rw [(wid_eq s2.endCell).2.1]; exact hcount
          by_cases hqe : q = (L8 t).length
          · -- the text ends behind the row
            have he := reach_end t (hqe ▸ hr2)
            have hfin : s2.fin = s2.endCell.endRow s2.line s2.col := by rw [RS.fin, if_pos hr2.ok, over_cd t hcd hqe]
            by_cases hlen : s.rows ≠ [] ∧ row.length ≠ s.width
            · refine ⟨badT t s.rows 8 q, top (Ev.pos rfl (Ev.neg (by show ¬ (q : Int) < _; omega) (j1f ?_))), .inl ⟨s.rows, 8, q, by omega, rfl, hql, ?_, .inr ⟨?_, ?_, .inr (.inr ⟨rfl, hqe⟩)⟩⟩⟩
              · rw [decide_eq_true hlen]
                refine Ev.succ (fun k => larderref04_read.j2.eq_2 ..) (Ev.pos rfl (Ev.bind (placed_ev t 8 q hql (by omega)) ?_))
                rw [rws_len]
                exact Ev.here
              · rw [he]; exact sr.rows
              · rw [he]; exact hr2.ok
              · rw [he, hfin, RS.endRow, if_neg (by rw [hwrow, hwid, if_neg hlen.1]; exact hlen.2), ← hr2.pos]
                rfl
            · have hok : row.length = s2.endCell.widen.width := by
                rw [hwid]
                by_cases hz : s.rows = []
                · rw [if_pos hz]
                · rw [if_neg hz]
                  exact Classical.byContradiction fun e => hlen ⟨hz, e⟩
              refine ⟨_, top (Ev.pos rfl (Ev.neg (by show ¬ (q : Int) < _; omega) (j1f ?_))), .inr ⟨s.rows ++ [row], s.rows.length, rfl, ?_, ?_, ?_, ?_, by simp⟩⟩
              · rw [decide_eq_false hlen]
                refine Ev.succ (fun k => larderref04_read.j2.eq_2 ..) (Ev.neg (by decide) (Ev.pos (by rw [rws_len]; have := hb.le; omega) (Ev.bind1 rfl (Ev.pos (by show (q : Int) = _; omega) ?_))))
                rw [rws_snoc, rws_len]
                have e : wrap64 (((s.rows ++ [row]).length : Int) - 1) = (s.rows.length : Int) := by
                  have := hb.le
                  rw [List.length_append]
                  simp only [List.length_cons, List.length_nil]
                  unfold wrap64; omega
                rw [e]
                exact Ev.here
              · rw [he]; exact hr2.ok
              · rw [he, hfin, RS.endRow, if_pos (by rw [hwrow]; exact hok)]
                show s2.endCell.widen.fault = none
                unfold RS.widen
                split <;> exact hr2.ok
              · rw [he, hfin, RS.endRow, if_pos (by rw [hwrow]; exact hok)]
                show s2.endCell.widen.rows ++ [s2.endCell.widen.row] = _
                rw [hwrow, hwrows]
              · rw [he, List.take_left']
                · exact sr.rows
                · rfl
          · -- a CR
            obtain ⟨hq, h13⟩ : ∃ h : q < (L8 t).length, (L8 t)[q] = 13 := by
              rcases hend with h | h
              · exact absurd h hqe
              · exact h
            have hnx := next_cr t hcd (L8 t)[q] h13
            have hs := (reach_step t hr2 hq hn).1 (by rw [hnx]; exact hr2.ok)
            rw [hnx] at hs
            obtain ⟨o1, o2, o3, o4, o5⟩ := on_same (up s2).cr (L8 t)[q]
            have hpos : (((up s2).cr.on (L8 t)[q]).ml, ((up s2).cr.on (L8 t)[q]).mc) = lc ((L8 t).take q) := (Prod.ext (show _ = s2.line from o4) (show _ = s2.col from o5)).trans hr2.pos
            by_cases hq1 : q + 1 = (L8 t).length
            · -- the text ends behind the CR
              have he := reach_end t (hq1 ▸ hs)
              refine ⟨badT t s.rows 3 q, top (Ev.pos rfl (Ev.pos (by show (q : Int) < _; omega) (Ev.pos (by show wrap64 ((q : Int) + 1) = _; rw [w1 _ (by omega)]; omega) ?_))), .inl ⟨s.rows, 3, q, by omega, rfl, hql, ?_, .inr ⟨?_, ?_, .inr (.inl ⟨rfl, hq1, hq, by rw [h13]; decide⟩)⟩⟩⟩
              · refine Ev.succ (fun k => larderref04_read.j1.eq_2 ..) (Ev.pos rfl (Ev.bind (placed_ev t 3 q hql (by omega)) ?_))
                rw [rws_len]
                exact Ev.here
              · rw [he]; exact o1.rows.trans sr.rows
              · rw [he]; exact hs.ok
              · rw [he, RS.fin, if_pos hs.ok, RS.over, o2]
                show some (RS.ml _, RS.mc _, 3) = _
                rw [← hpos]
            · have hq2 : q + 1 < (L8 t).length := by omega
              have hmd : (up ((up s2).cr.on (L8 t)[q])).md = .back := o2
              have hnb : RS.next (up ((up s2).cr.on (L8 t)[q])) (L8 t)[q + 1] = RS.back (up ((up s2).cr.on (L8 t)[q])) (L8 t)[q + 1] := by rw [RS.next, hmd]
              have top2 : ∀ {r' : Txt}, Ev (fun k => larderref04_read.j1 k t (rws s.rows) (txs row) (q : Int) ((bt t ((q + 1 : Nat) : Int)) != 10)) r' → Ev (fun k => larderref04_read.l0 k t (rws s.rows) p) r' := by
                intro r' h
                refine top (Ev.pos rfl (Ev.pos (by show (q : Int) < _; omega) (Ev.neg (by show ¬ wrap64 ((q : Int) + 1) = _; rw [w1 _ (by omega)]; omega) (Ev.pos (by show 0 ≤ wrap64 ((q : Int) + 1); rw [w1 _ (by omega)]; omega) (Ev.pos (by show wrap64 ((q : Int) + 1) < _; rw [w1 _ (by omega)]; omega) ?_)))))
                show Ev (fun k => larderref04_read.j1 k t (rws s.rows) (txs row) (q : Int) ((bt t (wrap64 ((q : Int) + 1))) != 10)) r'
                rw [w1 _ (by omega)]
                exact h
              by_cases h10 : (L8 t)[q + 1] = 10
              · have e10 : ((bt t ((q + 1 : Nat) : Int)) != 10) = false := by rw [(bt_is t (q + 1) hq2 10).2 h10]; rfl
                rw [e10] at top2
                -- the row that the machine ends
                have hback : RS.back (up ((up s2).cr.on (L8 t)[q])) (L8 t)[q + 1] = (up ((up s2).cr.on (L8 t)[q])).endRow ((up s2).cr.on (L8 t)[q]).ml ((up s2).cr.on (L8 t)[q]).mc := by rw [RS.back, if_pos h10]; rfl
                have hrow3 : (up ((up s2).cr.on (L8 t)[q])).row = row := o1.row.trans hrow
                have hrows3 : (up ((up s2).cr.on (L8 t)[q])).rows = s.rows := o1.rows.trans sr.rows
                have hcount3 : (up ((up s2).cr.on (L8 t)[q])).count = s.rows.length := o1.count.trans hcount
                have hwidth3 : (up ((up s2).cr.on (L8 t)[q])).width = s.width := o1.width.trans sr.width
                have hw3 : (up ((up s2).cr.on (L8 t)[q])).widen.width = if s.rows = [] then row.length else s.width := by
                  unfold RS.widen
                  by_cases hz : s.rows = []
                  · rw [if_pos (by rw [hcount3, hz]; rfl), if_pos hz]
                    show (up ((up s2).cr.on (L8 t)[q])).row.length = _
                    rw [hrow3]
                  · rw [if_neg (by rw [hcount3]; intro e; exact hz (List.eq_nil_of_length_eq_zero e)), if_neg hz]
                    exact hwidth3
                obtain ⟨g1, g2, g3⟩ := wid_eq (up ((up s2).cr.on (L8 t)[q]))
                by_cases hlen : s.rows ≠ [] ∧ row.length ≠ s.width
                · have eF : RS.next (up ((up s2).cr.on (L8 t)[q])) (L8 t)[q + 1] = (up ((up s2).cr.on (L8 t)[q])).widen.fail ((up s2).cr.on (L8 t)[q]).ml ((up s2).cr.on (L8 t)[q]).mc 8 := by
                    rw [hnb, hback, RS.endRow, if_neg (by rw [g1, hrow3, hw3, if_neg hlen.1]; exact hlen.2)]
                  have hg := (reach_step t hs hq2 hn).2 (by rw [eF]; intro h; cases h)
                  rw [eF] at hg
                  refine ⟨badT t s.rows 8 q, top2 (j1f ?_), .inl ⟨s.rows, 8, q, by omega, rfl, hql, ?_, .inl ⟨?_, by omega, by omega, by omega, fun _ => hq⟩⟩⟩
                  · rw [decide_eq_true hlen]
                    refine Ev.succ (fun k => larderref04_read.j2.eq_2 ..) (Ev.pos rfl (Ev.bind (placed_ev t 8 q hql (by omega)) ?_))
                    rw [rws_len]
                    exact Ev.here
                  · rw [hg, ((on_same _ _).1).rows]
                    exact g3.trans hrows3
                  · rw [hg, on_fault, ← hpos]; rfl
                · have hok : row.length = (up ((up s2).cr.on (L8 t)[q])).widen.width := by
                    rw [hw3]
                    by_cases hz : s.rows = []
                    · rw [if_pos hz]
                    · rw [if_neg hz]
                      exact Classical.byContradiction fun e => hlen ⟨hz, e⟩
                  have eF : RS.next (up ((up s2).cr.on (L8 t)[q])) (L8 t)[q + 1] = (up ((up s2).cr.on (L8 t)[q])).widen.newRow := by
                    rw [hnb, hback, RS.endRow, if_pos (by rw [g1, hrow3]; exact hok)]
                  have hfa : ((up ((up s2).cr.on (L8 t)[q])).widen.newRow).fault = none := by
                    show (up ((up s2).cr.on (L8 t)[q])).widen.fault = none
                    unfold RS.widen
                    split <;> exact hs.ok
                  have hs3 := (reach_step t hs hq2 hn).1 (by rw [eF]; exact hfa)
                  rw [eF] at hs3
                  obtain ⟨u1, u2, u3, u4, u5⟩ := on_same (up ((up s2).cr.on (L8 t)[q])).widen.newRow (L8 t)[q + 1]
                  have hrows4 : ((up ((up s2).cr.on (L8 t)[q])).widen.newRow.on (L8 t)[q + 1]).rows = s.rows ++ [row] := by
                    rw [u1.rows]
                    show (up ((up s2).cr.on (L8 t)[q])).widen.rows ++ [(up ((up s2).cr.on (L8 t)[q])).widen.row] = _
                    rw [g3, g1, hrows3, hrow3]
                  have hcell4 : (up ((up s2).cr.on (L8 t)[q])).widen.cell = [] := by
                    unfold RS.widen
                    split <;> exact o3
                  obtain ⟨r', k1, k2⟩ := ih (q + 2) _ (by omega) hs3 ⟨u2, u3.trans hcell4, u1.row, by
                      rw [u1.count, hrows4]
                      show (up ((up s2).cr.on (L8 t)[q])).widen.count + 1 = _
                      rw [g2, hcount3]; simp, by
                      intro r l e
                      rw [hrows4] at e
                      rw [u1.width]
                      show (up ((up s2).cr.on (L8 t)[q])).widen.width = _
                      rw [hw3]
                      cases hz : s.rows with
                      | nil => rw [hz] at e; simp at e; rw [if_pos rfl, e.1]
                      | cons a l' => rw [hz] at e; simp at e; rw [if_neg (by simp), ← e.1]; exact hb.width a l' hz, by
                      rw [hrows4]; have := hb.le; simp; omega⟩
                  refine ⟨r', top2 (j1f ?_), k2⟩
                  rw [decide_eq_false hlen]
                  refine Ev.succ (fun k => larderref04_read.j2.eq_2 ..) (Ev.neg (by decide) (Ev.pos (by rw [rws_len]; have := hb.le; omega) (Ev.bind1 rfl (Ev.neg (by show ¬ (q : Int) = _; omega) ?_))))
                  rw [rws_snoc, w2 _ (by omega), ← hrows4]
                  exact k1
              · have e10 : ((bt t ((q + 1 : Nat) : Int)) != 10) = true := by
                  rw [bne, Bool.not_eq_true', beq_eq_false_iff_ne]
                  exact fun e => h10 ((bt_is t (q + 1) hq2 10).1 e)
                rw [e10] at top2
                have eF : RS.next (up ((up s2).cr.on (L8 t)[q])) (L8 t)[q + 1] = (up ((up s2).cr.on (L8 t)[q])).fail ((up s2).cr.on (L8 t)[q]).ml ((up s2).cr.on (L8 t)[q]).mc 3 := by
                  rw [hnb, RS.back, if_neg h10]; rfl
                have hg := (reach_step t hs hq2 hn).2 (by rw [eF]; intro h; cases h)
                rw [eF] at hg
                refine ⟨badT t s.rows 3 q, top2 ?_, .inl ⟨s.rows, 3, q, by omega, rfl, hql, ?_, .inl ⟨?_, by omega, by omega, fun _ => .inr hq2, by omega⟩⟩⟩
                · refine Ev.succ (fun k => larderref04_read.j1.eq_2 ..) (Ev.pos rfl (Ev.bind (placed_ev t 3 q hql (by omega)) ?_))
                  rw [rws_len]
                  exact Ev.here
                · rw [hg, ((on_same _ _).1).rows]
                  exact o1.rows.trans sr.rows
                · rw [hg, on_fault, ← hpos]; rfl
        · refine ⟨badT t s.rows c q, top (Ev.neg (by show ¬ (c : Int) = 0; omega) ?_), .inl ⟨s.rows, c, q, hc0, rfl, hbad⟩⟩
          rw [rws_len]
          exact Ev.here
    · have hpe : p = (L8 t).length := by have := hr.le; omega
      exact ih p s (by omega) hr hb
theorem read_ev (hn : (L8 t).length ≤ 262144) : ∃ r, Ev (fun k => larderref04_read.f k t) r ∧ TR t r :=
  read_l t hn _ 0 RS.new (Nat.le_refl _) (reach_new t) ⟨rfl, rfl, rfl, rfl, by intro r l e; (cases e), by decide⟩
end Go.Proofs.YtappphffbnkloaaGreatDoor.Sht
