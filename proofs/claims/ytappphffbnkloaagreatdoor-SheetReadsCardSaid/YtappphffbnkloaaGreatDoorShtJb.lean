-- joined out of the texts ShtU ShtTo ShtV ShtI ShtX ShtY ShtD ShtE ShtF ShtG
import Derived.Test.YtappphffbnkloaaGreatDoorShtJa
import Derived.Test.YtappphffbnkloaaGreatDoorGSxf44
import Derived.Test.YtappphffbnkloaaGreatDoorGSxf39
import Derived.Test.YtappphffbnkloaaGreatDoorChecked
import Derived.LaidEql
import Derived.Stop.Asserts
import Derived.RowKitTokens
import Derived.Deep.AppendLies
import Derived.Lib.Hide
import Derived.Deep.RegionHeld3
import Derived.Deep.RegionWith
import Derived.Deep.DrawnRows
import Derived.Deep.QuietTactic
import Derived.BigQuiet
set_option linter.unusedVariables false
set_option linter.unusedSimpArgs false
namespace Go.Proofs.YtappphffbnkloaaGreatDoor.Sht
open Go Go.RowKit Go.Proofs.YtappphffbnkloaaGreatDoorW.PrintWords Go.Proofs.YtappphffbnkloaaGreatDoor.GS
variable (t : ByteArray)
abbrev Row7 := List ByteArray × Int × Int × Int × Int × Int × Int
def txs (l : List (List UInt8)) : List ByteArray := l.map tx
theorem txs_len (l : List (List UInt8)) : (txs l).length = l.length := by simp [txs]
theorem txs_snoc (l : List (List UInt8)) (x : List UInt8) : txs l ++ [tx x] = txs (l ++ [x]) := by simp [txs]
def okR (row : List (List UInt8)) (q : Nat) : Row7 := (txs row, (q : Int), 0, 0, 0, 0, 0)
def badR (c q : Nat) : Row7 := (([] : List ByteArray), 0, (plc t c q).1, (plc t c q).2.1, (plc t c q).2.2.1, (plc t c q).2.2.2.1, (plc t c q).2.2.2.2)
/-- what a row leaves of the state -/
structure Sr (s s' : RS) : Prop where
  rows : s'.rows = s.rows
  count : s'.count = s.count
  width : s'.width = s.width
theorem Sr.trans {a b c : RS} (h : Sr a b) (k : Sr b c) : Sr a c := ⟨k.rows.trans h.rows, k.count.trans h.count, k.width.trans h.width⟩
theorem Sm.sr {a b : RS} (h : Sm a b) : Sr a b := ⟨h.rows, h.count, h.width⟩
def RR (s : RS) (p : Nat) (r : Row7) : Prop :=
  (∃ row q s', r = okR row q ∧ Reach t s' q ∧ Sr s s' ∧ Cd t s' q ∧ s'.row ++ [s'.cell] = row ∧ row.length ≤ 64 ∧ p ≤ q ∧ (q = (L8 t).length ∨ ∃ h : q < (L8 t).length, (L8 t)[q] = 13)) ∨
  (∃ c q, c ≠ 0 ∧ r = badR t c q ∧ Bad t s.rows c q)
theorem RR.of {s s' : RS} {p p' : Nat} {r : Row7} (h : RR t s' p' r) (k : Sr s s') (hp : p ≤ p') : RR t s p r := by
  rcases h with ⟨row, q, s2, h1, h2, h3, h4, h5, h6, h7, h8⟩ | ⟨c, q, h1, h2, h3⟩
  · exact .inl ⟨row, q, s2, h1, h2, k.trans h3, h4, h5, h6, by omega, h8⟩
  · exact .inr ⟨c, q, h1, h2, by rw [← k.rows]; exact h3⟩
theorem row_l (hn : (L8 t).length ≤ 262144) : ∀ (d p : Nat) (s : RS), (L8 t).length - p ≤ d → Reach t s p → Beg t s p → s.cell = [] → s.row.length ≤ 63 →
    ∃ r, Ev (fun k => larderref04_row.l0 k t (txs s.row) p true) r ∧ RR t s p r := by
  intro d
  induction d with
  | zero =>
    intro p s hd hr hb hc hl
    -- the text's end: one cell more
    have hsz := L8_len t
    have hp : p = (L8 t).length := by have := hr.le; omega
    obtain ⟨r, h1, h2⟩ := cell_ev t hn p s hr hb hc
    rcases h2 with ⟨text, q, s2, rfl, hr2, sm, hcd, hc2, hl2, hpq, hend⟩ | ⟨c, q, hc0, rfl, hbad⟩
    · have hq : q = (L8 t).length := by have := hr2.le; omega
      refine ⟨okR (s.row ++ [text]) q, ?_, .inl ⟨_, q, s2, rfl, hr2, sm.sr, hcd, by rw [sm.row, hc2], by simp; omega, hpq, .inl hq⟩⟩
      refine Ev.succ (fun k => larderref04_row.l0.eq_2 ..) (Ev.pos rfl (Ev.bind h1 (Ev.pos rfl (Ev.pos (by rw [txs_len]; omega) (Ev.bind1 rfl (Ev.neg (by show ¬ (q : Int) < _; omega) ?_))))))
      show Ev (fun k => larderref04_row.j1 k t (txs s.row ++ [tx text]) (q : Int) false) _
      rw [txs_snoc]
      exact Ev.succ (fun k => larderref04_row.j1.eq_2 ..) (Ev.neg (by decide) (Ev.succ (fun k => larderref04_row.j2.eq_2 ..) (Ev.neg (by decide) (Ev.neg (by decide) (Ev.succ (fun k => larderref04_row.l0.eq_2 ..) (Ev.neg (by decide) Ev.here))))))
    · exact ⟨badR t c q, Ev.succ (fun k => larderref04_row.l0.eq_2 ..) (Ev.pos rfl (Ev.bind h1 (Ev.neg (by show ¬ (c : Int) = 0; omega) Ev.here))), .inr ⟨c, q, hc0, rfl, hbad⟩⟩
  | succ d ih =>
    intro p s hd hr hb hc hl
    have hsz := L8_len t
    obtain ⟨r, h1, h2⟩ := cell_ev t hn p s hr hb hc
    rcases h2 with ⟨text, q, s2, rfl, hr2, sm, hcd, hc2, hl2, hpq, hend⟩ | ⟨c, q, hc0, rfl, hbad⟩
    · have hrow : s2.row ++ [s2.cell] = s.row ++ [text] := by rw [sm.row, hc2]
      have hql := hr2.le
      -- the row ends
      have stop : (q = (L8 t).length ∨ ∃ h : q < (L8 t).length, (L8 t)[q] = 13) → ∃ r, Ev (fun k => larderref04_row.l0 k t (txs s.row) p true) r ∧ RR t s p r := by
        intro he
        refine ⟨okR (s.row ++ [text]) q, ?_, .inl ⟨_, q, s2, rfl, hr2, sm.sr, hcd, hrow, by simp; omega, hpq, he⟩⟩
        have tail : Ev (fun k => larderref04_row.j1 k t (txs s.row ++ [tx text]) (q : Int) false) (okR (s.row ++ [text]) q) := by
          rw [txs_snoc]
          exact Ev.succ (fun k => larderref04_row.j1.eq_2 ..) (Ev.neg (by decide) (Ev.succ (fun k => larderref04_row.j2.eq_2 ..) (Ev.neg (by decide) (Ev.neg (by decide) (Ev.succ (fun k => larderref04_row.l0.eq_2 ..) (Ev.neg (by decide) Ev.here))))))
        refine Ev.succ (fun k => larderref04_row.l0.eq_2 ..) (Ev.pos rfl (Ev.bind h1 (Ev.pos rfl (Ev.pos (by rw [txs_len]; omega) (Ev.bind1 rfl ?_)))))
        rcases he with he | ⟨hq, h13⟩
        · exact Ev.neg (by show ¬ (q : Int) < _; omega) tail
        · refine Ev.pos (by show (q : Int) < _; omega) (Ev.pos (by show (0 : Int) ≤ q; omega) ?_)
          have e2 : (bt t (okQ text q).2.1 == 44) = false := by
            show (bt t (q : Int) == 44) = false
            rw [(bt_is t q hq 13).2 h13]; rfl
          rw [e2]
          exact tail
      rcases hend with he | ⟨hq, h44 | h13⟩
      · exact stop (.inl he)
      · -- a comma
        have go : ∀ {r' : Row7}, Ev (fun k => larderref04_row.j2 k t (txs (s.row ++ [text])) (q : Int) true (((txs (s.row ++ [text])).length : Int) == 64)) r' → Ev (fun k => larderref04_row.l0 k t (txs s.row) p true) r' := by
          intro r' h
          refine Ev.succ (fun k => larderref04_row.l0.eq_2 ..) (Ev.pos rfl (Ev.bind h1 (Ev.pos rfl (Ev.pos (by rw [txs_len]; omega) (Ev.bind1 rfl (Ev.pos (by show (q : Int) < _; omega) (Ev.pos (by show (0 : Int) ≤ q; omega) ?_)))))))
          have e2 : (bt t (okQ text q).2.1 == 44) = true := by
            show (bt t (q : Int) == 44) = true
            rw [(bt_is t q hq 44).2 h44]; rfl
          rw [e2]
          show Ev (fun k => larderref04_row.j1 k t (txs s.row ++ [tx text]) (q : Int) true) _
          rw [txs_snoc]
          exact Ev.succ (fun k => larderref04_row.j1.eq_2 ..) (Ev.pos rfl h)
        have hnx := next_comma t hcd (L8 t)[q] h44
        have hlen : (up s2).endCell.row.length = s.row.length + 1 := by
          show (s2.row ++ [s2.cell]).length = _
          rw [hrow]; simp
        by_cases h64 : s.row.length + 1 = 64
        · refine ⟨badR t 6 q, go ?_, .inr ⟨6, q, by omega, rfl, ?_⟩⟩
          · have e2 : (((txs (s.row ++ [text])).length : Int) == 64) = true := by rw [txs_len]; simp; omega
            rw [e2]
            exact Ev.succ (fun k => larderref04_row.j2.eq_2 ..) (Ev.pos rfl (Ev.bind (placed_ev t 6 q hql (by omega)) Ev.here))
          · rw [← sm.rows]
            exact bad_at t (s1 := (up s2).endCell.turn .start) hr2 hq hn (by rw [hnx, RS.comma, if_pos (by rw [hlen]; exact h64)]; rfl) rfl ⟨by omega, by omega, by omega⟩
        · have e4 : RS.next (up s2) (L8 t)[q] = (up s2).endCell.turn .start := by rw [hnx, RS.comma, if_neg (by rw [hlen]; exact h64)]
          have hs := (reach_step t hr2 hq hn).1 (by rw [e4]; exact hr2.ok)
          rw [e4] at hs
          obtain ⟨o1, o2, o3, o4, o5⟩ := on_same ((up s2).endCell.turn .start) (L8 t)[q]
          have hrw : (((up s2).endCell.turn .start).on (L8 t)[q]).row = s.row ++ [text] := o1.row.trans hrow
          obtain ⟨r', k1, k2⟩ := ih (q + 1) _ (by omega) hs (.inl o2) o3 (by rw [hrw]; simp; omega)
          refine ⟨r', go ?_, k2.of t (sm.sr.trans (Sr.trans (b := (up s2).endCell.turn .start) ⟨rfl, rfl, rfl⟩ o1.sr)) (by omega)⟩
          have e2 : (((txs (s.row ++ [text])).length : Int) == 64) = false := by rw [txs_len]; simp; omega
          rw [e2]
          refine Ev.succ (fun k => larderref04_row.j2.eq_2 ..) (Ev.neg (by decide) (Ev.pos rfl ?_))
          rw [w1 _ (by omega), ← hrw]
          exact k1
      · exact stop (.inr ⟨hq, h13⟩)
    · exact ⟨badR t c q, Ev.succ (fun k => larderref04_row.l0.eq_2 ..) (Ev.pos rfl (Ev.bind h1 (Ev.neg (by show ¬ (c : Int) = 0; omega) Ev.here))), .inr ⟨c, q, hc0, rfl, hbad⟩⟩
theorem wid_eq (s : RS) : s.widen.row = s.row ∧ s.widen.count = s.count ∧ s.widen.rows = s.rows := by
  unfold RS.widen
  split <;> exact ⟨rfl, rfl, rfl⟩
abbrev Txt := (List (List ByteArray)) × Int × Int × Int × Int × Int × Int
def rws (l : List (List (List UInt8))) : List (List ByteArray) := l.map txs
theorem rws_len (l : List (List (List UInt8))) : (rws l).length = l.length := by simp [rws]
theorem rws_snoc (l : List (List (List UInt8))) (x : List (List UInt8)) : rws l ++ [txs x] = rws (l ++ [x]) := by simp [rws]
def badT (rows : List (List (List UInt8))) (c q : Nat) : Txt := (rws rows, (rows.length : Int), (plc t c q).1, (plc t c q).2.1, (plc t c q).2.2.1, (plc t c q).2.2.2.1, (plc t c q).2.2.2.2)
/-- what the text comes to -/
def TR (r : Txt) : Prop :=
  (∃ rows c q, c ≠ 0 ∧ r = badT t rows c q ∧ Bad t rows c q) ∨
  (∃ (rows : List (List (List UInt8))) (n : Nat), r = (rws rows, (n : Int), 0, 0, 0, 0, 0) ∧ (RS.new.feed (L8 t)).fault = none ∧ (RS.new.feed (L8 t)).fin.fault = none ∧ (RS.new.feed (L8 t)).fin.rows = rows ∧ (RS.new.feed (L8 t)).rows = rows.take n ∧ n ≤ rows.length)
/-- between two rows -/
structure Btw (s : RS) : Prop where
  md : s.md = .fresh
  cell : s.cell = []
  row : s.row = []
  count : s.count = s.rows.length
  width : ∀ r l, s.rows = r :: l → s.width = r.length
  le : s.rows.length ≤ 4096
theorem over_cd {s : RS} {q : Nat} (h : Cd t s q) (hq : q = (L8 t).length) : s.over = s.endCell.endRow s.line s.col := by
  rcases h with h | h | h | ⟨h, _, h2⟩
  · rw [RS.over, h]
  · rw [RS.over, h]
  · rw [RS.over, h]
  · omega
theorem read_l (hn : (L8 t).length ≤ 262144) : ∀ (d p : Nat) (s : RS), (L8 t).length - p ≤ d → Reach t s p → Btw s → ∃ r, Ev (fun k => larderref04_read.l0 k t (rws s.rows) p) r ∧ TR t r := by
  intro d
  induction d with
  | zero =>
    intro p s hd hr hb
    have hsz := L8_len t
    obtain rfl : p = (L8 t).length := by have := hr.le; omega
    have he := reach_end t hr
    have hf : s.fin = s := by rw [RS.fin, if_pos hr.ok, RS.over, hb.md]
    refine ⟨_, Ev.succ (fun k => larderref04_read.l0.eq_2 ..) (Ev.neg (by omega) Ev.here), .inr ⟨s.rows, s.rows.length, by rw [rws_len], ?_, ?_, ?_, ?_, Nat.le_refl _⟩⟩
    · rw [he]; exact hr.ok
    · rw [he, hf]; exact hr.ok
    · rw [he, hf]
    · rw [he, List.take_length]
  | succ d ih =>
    intro p s hd hr hb
    have hsz := L8_len t
    by_cases hp : p < (L8 t).length
    · by_cases h4 : s.rows.length = 4096
      · refine ⟨badT t s.rows 7 p, ?_, .inl ⟨s.rows, 7, p, by omega, rfl, ?_⟩⟩
        · refine Ev.succ (fun k => larderref04_read.l0.eq_2 ..) (Ev.pos (by omega) (Ev.pos (by rw [rws_len]; omega) (Ev.bind (placed_ev t 7 p hr.le (by omega)) ?_)))
          rw [rws_len]
          exact Ev.here
        · refine bad_at t (s1 := up s) hr hp hn ?_ rfl ⟨by omega, by omega, by omega⟩
          have : (up s).md = .fresh := hb.md
          rw [RS.next, this]
          show RS.fresh (up s) (L8 t)[p] = _
          rw [RS.fresh, if_pos (show (up s).count = 4096 from hb.count.trans h4)]
          rfl
      · have hbeg : Beg t s p := .inr ⟨hb.md, by rw [hb.count]; exact h4, hp⟩
        obtain ⟨r, h1, h2⟩ := row_l t hn _ p s (Nat.le_refl _) hr hbeg hb.cell (by rw [hb.row]; simp)
        have hrf : Ev (fun k => larderref04_row.f k t p) r := by
          refine Ev.of (fun k => ?_) h1
          show larderref04_row.l0 k t ([] : List ByteArray) (p : Int) true = _
          rw [hb.row]; rfl
        have top : ∀ {r' : Txt}, Ev (fun k => (if r.2.2.1 = 0 then (if r.2.1 < (t.size : Int) then (if (wrap64 (r.2.1 + 1)) = (t.size : Int) then (larderref04_read.j1 k t (rws s.rows) r.1 r.2.1 true) else (if 0 ≤ (wrap64 (r.2.1 + 1)) then (if (wrap64 (r.2.1 + 1)) < (t.size : Int) then (larderref04_read.j1 k t (rws s.rows) r.1 r.2.1 ((bt t (wrap64 (r.2.1 + 1))) != 10)) else (none)) else (none))) else (larderref04_read.j1 k t (rws s.rows) r.1 r.2.1 false)) else (some (rws s.rows, ((rws s.rows).length : Int), r.2.2.1, r.2.2.2.1, r.2.2.2.2.1, r.2.2.2.2.2.1, r.2.2.2.2.2.2)))) r' → Ev (fun k => larderref04_read.l0 k t (rws s.rows) p) r' := by
          intro r' h
          exact Ev.succ (fun k => larderref04_read.l0.eq_2 ..) (Ev.pos (by omega) (Ev.neg (by rw [rws_len]; omega) (Ev.bind hrf h)))
        rcases h2 with ⟨row, q, s2, rfl, hr2, sr, hcd, hrow, hl2, hpq, hend⟩ | ⟨c, q, hc0, rfl, hbad⟩
        · have hql := hr2.le
          have hcount : s2.count = s.rows.length := sr.count.trans hb.count
          -- is the row as long as the first?
          have j1f : ∀ {r' : Txt}, Ev (fun k => larderref04_read.j2 k t (rws s.rows) (txs row) (q : Int) (decide (s.rows ≠ [] ∧ row.length ≠ s.width))) r' → Ev (fun k => larderref04_read.j1 k t (rws s.rows) (txs row) (q : Int) false) r' := by
            intro r' h
            refine Ev.succ (fun k => larderref04_read.j1.eq_2 ..) (Ev.neg (by decide) ?_)
            cases hrs : s.rows with
            | nil =>
              rw [hrs] at h
              refine Ev.neg (by simp [rws]) ?_
              have e : decide (([] : List (List (List UInt8))) ≠ [] ∧ row.length ≠ s.width) = false := by simp
              rw [e] at h
              exact h
            | cons a l =>
              rw [hrs] at h
              have hw := hb.width a l hrs
              refine Ev.pos (by rw [rws_len]; simp) (Ev.pos (by rw [rws_len]; simp) ?_)
              have e : (((txs row).length : Int) != ((rd_L2 (rws (a :: l)) 0).length : Int)) = decide (a :: l ≠ [] ∧ row.length ≠ s.width) := by
                have e1 : rd_L2 (rws (a :: l)) 0 = txs a := by simp [rd_L2, rws]
                rw [e1, txs_len, txs_len, hw]
                by_cases hh : row.length = a.length
                · simp [hh]
                · simp [hh]; omega
              rw [e]
              exact h
          have hwid : s2.endCell.widen.width = if s.rows = [] then row.length else s.width := by
            have hc0 : s2.endCell.count = s.rows.length := hcount
            unfold RS.widen
            by_cases hz : s.rows = []
            · rw [if_pos (by rw [hc0, hz]; rfl), if_pos hz]
              show (s2.row ++ [s2.cell]).length = _
              rw [hrow]
            · rw [if_neg (by rw [hc0]; intro e; exact hz (List.eq_nil_of_length_eq_zero e)), if_neg hz]
              exact sr.width
          have hwrow : s2.endCell.widen.row = row := by rw [(wid_eq s2.endCell).1]; exact hrow
          have hwrows : s2.endCell.widen.rows = s.rows := by rw [(wid_eq s2.endCell).2.2]; exact sr.rows
          have hwcount : s2.endCell.widen.count = s.rows.length := by rw [(wid_eq s2.endCell).2.1]; exact hcount
          by_cases hqe : q = (L8 t).length
          · -- the text ends behind the row
            have he := reach_end t (hqe ▸ hr2)
            have hfin : s2.fin = s2.endCell.endRow s2.line s2.col := by rw [RS.fin, if_pos hr2.ok, over_cd t hcd hqe]
            by_cases hlen : s.rows ≠ [] ∧ row.length ≠ s.width
            · refine ⟨badT t s.rows 8 q, top (Ev.pos rfl (Ev.neg (by show ¬ (q : Int) < _; omega) (j1f ?_))), .inl ⟨s.rows, 8, q, by omega, rfl, hql, ?_, .inr ⟨?_, ?_, .inr (.inr ⟨rfl, hqe⟩)⟩⟩⟩
              · rw [decide_eq_true hlen]
                refine Ev.succ (fun k => larderref04_read.j2.eq_2 ..) (Ev.pos rfl (Ev.bind (placed_ev t 8 q hql (by omega)) ?_))
                rw [rws_len]
                exact Ev.here
              · rw [he]; exact sr.rows
              · rw [he]; exact hr2.ok
              · rw [he, hfin, RS.endRow, if_neg (by rw [hwrow, hwid, if_neg hlen.1]; exact hlen.2), ← hr2.pos]
                rfl
            · have hok : row.length = s2.endCell.widen.width := by
                rw [hwid]
                by_cases hz : s.rows = []
                · rw [if_pos hz]
                · rw [if_neg hz]
                  exact Classical.byContradiction fun e => hlen ⟨hz, e⟩
              refine ⟨_, top (Ev.pos rfl (Ev.neg (by show ¬ (q : Int) < _; omega) (j1f ?_))), .inr ⟨s.rows ++ [row], s.rows.length, rfl, ?_, ?_, ?_, ?_, by simp⟩⟩
              · rw [decide_eq_false hlen]
                refine Ev.succ (fun k => larderref04_read.j2.eq_2 ..) (Ev.neg (by decide) (Ev.pos (by rw [rws_len]; have := hb.le; omega) (Ev.bind1 rfl (Ev.pos (by show (q : Int) = _; omega) ?_))))
                rw [rws_snoc, rws_len]
                have e : wrap64 (((s.rows ++ [row]).length : Int) - 1) = (s.rows.length : Int) := by
                  have := hb.le
                  rw [List.length_append]
                  simp only [List.length_cons, List.length_nil]
                  unfold wrap64; omega
                rw [e]
                exact Ev.here
              · rw [he]; exact hr2.ok
              · rw [he, hfin, RS.endRow, if_pos (by rw [hwrow]; exact hok)]
                show s2.endCell.widen.fault = none
                unfold RS.widen
                split <;> exact hr2.ok
              · rw [he, hfin, RS.endRow, if_pos (by rw [hwrow]; exact hok)]
                show s2.endCell.widen.rows ++ [s2.endCell.widen.row] = _
                rw [hwrow, hwrows]
              · rw [he, List.take_left']
                · exact sr.rows
                · rfl
          · -- a CR
            obtain ⟨hq, h13⟩ : ∃ h : q < (L8 t).length, (L8 t)[q] = 13 := by
              rcases hend with h | h
              · exact absurd h hqe
              · exact h
            have hnx := next_cr t hcd (L8 t)[q] h13
            have hs := (reach_step t hr2 hq hn).1 (by rw [hnx]; exact hr2.ok)
            rw [hnx] at hs
            obtain ⟨o1, o2, o3, o4, o5⟩ := on_same (up s2).cr (L8 t)[q]
            have hpos : (((up s2).cr.on (L8 t)[q]).ml, ((up s2).cr.on (L8 t)[q]).mc) = lc ((L8 t).take q) := (Prod.ext (show _ = s2.line from o4) (show _ = s2.col from o5)).trans hr2.pos
            by_cases hq1 : q + 1 = (L8 t).length
            · -- the text ends behind the CR
              have he := reach_end t (hq1 ▸ hs)
              refine ⟨badT t s.rows 3 q, top (Ev.pos rfl (Ev.pos (by show (q : Int) < _; omega) (Ev.pos (by show wrap64 ((q : Int) + 1) = _; rw [w1 _ (by omega)]; omega) ?_))), .inl ⟨s.rows, 3, q, by omega, rfl, hql, ?_, .inr ⟨?_, ?_, .inr (.inl ⟨rfl, hq1, hq, by rw [h13]; decide⟩)⟩⟩⟩
              · refine Ev.succ (fun k => larderref04_read.j1.eq_2 ..) (Ev.pos rfl (Ev.bind (placed_ev t 3 q hql (by omega)) ?_))
                rw [rws_len]
                exact Ev.here
              · rw [he]; exact o1.rows.trans sr.rows
              · rw [he]; exact hs.ok
              · rw [he, RS.fin, if_pos hs.ok, RS.over, o2]
                show some (RS.ml _, RS.mc _, 3) = _
                rw [← hpos]
            · have hq2 : q + 1 < (L8 t).length := by omega
              have hmd : (up ((up s2).cr.on (L8 t)[q])).md = .back := o2
              have hnb : RS.next (up ((up s2).cr.on (L8 t)[q])) (L8 t)[q + 1] = RS.back (up ((up s2).cr.on (L8 t)[q])) (L8 t)[q + 1] := by rw [RS.next, hmd]
              have top2 : ∀ {r' : Txt}, Ev (fun k => larderref04_read.j1 k t (rws s.rows) (txs row) (q : Int) ((bt t ((q + 1 : Nat) : Int)) != 10)) r' → Ev (fun k => larderref04_read.l0 k t (rws s.rows) p) r' := by
                intro r' h
                refine top (Ev.pos rfl (Ev.pos (by show (q : Int) < _; omega) (Ev.neg (by show ¬ wrap64 ((q : Int) + 1) = _; rw [w1 _ (by omega)]; omega) (Ev.pos (by show 0 ≤ wrap64 ((q : Int) + 1); rw [w1 _ (by omega)]; omega) (Ev.pos (by show wrap64 ((q : Int) + 1) < _; rw [w1 _ (by omega)]; omega) ?_)))))
                show Ev (fun k => larderref04_read.j1 k t (rws s.rows) (txs row) (q : Int) ((bt t (wrap64 ((q : Int) + 1))) != 10)) r'
                rw [w1 _ (by omega)]
                exact h
              by_cases h10 : (L8 t)[q + 1] = 10
              · have e10 : ((bt t ((q + 1 : Nat) : Int)) != 10) = false := by rw [(bt_is t (q + 1) hq2 10).2 h10]; rfl
                rw [e10] at top2
                -- the row that the machine ends
                have hback : RS.back (up ((up s2).cr.on (L8 t)[q])) (L8 t)[q + 1] = (up ((up s2).cr.on (L8 t)[q])).endRow ((up s2).cr.on (L8 t)[q]).ml ((up s2).cr.on (L8 t)[q]).mc := by rw [RS.back, if_pos h10]; rfl
                have hrow3 : (up ((up s2).cr.on (L8 t)[q])).row = row := o1.row.trans hrow
                have hrows3 : (up ((up s2).cr.on (L8 t)[q])).rows = s.rows := o1.rows.trans sr.rows
                have hcount3 : (up ((up s2).cr.on (L8 t)[q])).count = s.rows.length := o1.count.trans hcount
                have hwidth3 : (up ((up s2).cr.on (L8 t)[q])).width = s.width := o1.width.trans sr.width
                have hw3 : (up ((up s2).cr.on (L8 t)[q])).widen.width = if s.rows = [] then row.length else s.width := by
                  unfold RS.widen
                  by_cases hz : s.rows = []
                  · rw [if_pos (by rw [hcount3, hz]; rfl), if_pos hz]
                    show (up ((up s2).cr.on (L8 t)[q])).row.length = _
                    rw [hrow3]
                  · rw [if_neg (by rw [hcount3]; intro e; exact hz (List.eq_nil_of_length_eq_zero e)), if_neg hz]
                    exact hwidth3
                obtain ⟨g1, g2, g3⟩ := wid_eq (up ((up s2).cr.on (L8 t)[q]))
                by_cases hlen : s.rows ≠ [] ∧ row.length ≠ s.width
                · have eF : RS.next (up ((up s2).cr.on (L8 t)[q])) (L8 t)[q + 1] = (up ((up s2).cr.on (L8 t)[q])).widen.fail ((up s2).cr.on (L8 t)[q]).ml ((up s2).cr.on (L8 t)[q]).mc 8 := by
                    rw [hnb, hback, RS.endRow, if_neg (by rw [g1, hrow3, hw3, if_neg hlen.1]; exact hlen.2)]
                  have hg := (reach_step t hs hq2 hn).2 (by rw [eF]; intro h; cases h)
                  rw [eF] at hg
                  refine ⟨badT t s.rows 8 q, top2 (j1f ?_), .inl ⟨s.rows, 8, q, by omega, rfl, hql, ?_, .inl ⟨?_, by omega, by omega, by omega, fun _ => hq⟩⟩⟩
                  · rw [decide_eq_true hlen]
                    refine Ev.succ (fun k => larderref04_read.j2.eq_2 ..) (Ev.pos rfl (Ev.bind (placed_ev t 8 q hql (by omega)) ?_))
                    rw [rws_len]
                    exact Ev.here
                  · rw [hg, ((on_same _ _).1).rows]
                    exact g3.trans hrows3
                  · rw [hg, on_fault, ← hpos]; rfl
                · have hok : row.length = (up ((up s2).cr.on (L8 t)[q])).widen.width := by
                    rw [hw3]
                    by_cases hz : s.rows = []
                    · rw [if_pos hz]
                    · rw [if_neg hz]
                      exact Classical.byContradiction fun e => hlen ⟨hz, e⟩
                  have eF : RS.next (up ((up s2).cr.on (L8 t)[q])) (L8 t)[q + 1] = (up ((up s2).cr.on (L8 t)[q])).widen.newRow := by
                    rw [hnb, hback, RS.endRow, if_pos (by rw [g1, hrow3]; exact hok)]
                  have hfa : ((up ((up s2).cr.on (L8 t)[q])).widen.newRow).fault = none := by
                    show (up ((up s2).cr.on (L8 t)[q])).widen.fault = none
                    unfold RS.widen
                    split <;> exact hs.ok
                  have hs3 := (reach_step t hs hq2 hn).1 (by rw [eF]; exact hfa)
                  rw [eF] at hs3
                  obtain ⟨u1, u2, u3, u4, u5⟩ := on_same (up ((up s2).cr.on (L8 t)[q])).widen.newRow (L8 t)[q + 1]
                  have hrows4 : ((up ((up s2).cr.on (L8 t)[q])).widen.newRow.on (L8 t)[q + 1]).rows = s.rows ++ [row] := by
                    rw [u1.rows]
                    show (up ((up s2).cr.on (L8 t)[q])).widen.rows ++ [(up ((up s2).cr.on (L8 t)[q])).widen.row] = _
                    rw [g3, g1, hrows3, hrow3]
                  have hcell4 : (up ((up s2).cr.on (L8 t)[q])).widen.cell = [] := by
                    unfold RS.widen
                    split <;> exact o3
                  obtain ⟨r', k1, k2⟩ := ih (q + 2) _ (by omega) hs3 ⟨u2, u3.trans hcell4, u1.row, by
                      rw [u1.count, hrows4]
                      show (up ((up s2).cr.on (L8 t)[q])).widen.count + 1 = _
                      rw [g2, hcount3]; simp, by
                      intro r l e
                      rw [hrows4] at e
                      rw [u1.width]
                      show (up ((up s2).cr.on (L8 t)[q])).widen.width = _
                      rw [hw3]
                      cases hz : s.rows with
                      | nil => rw [hz] at e; simp at e; rw [if_pos rfl, e.1]
                      | cons a l' => rw [hz] at e; simp at e; rw [if_neg (by simp), ← e.1]; exact hb.width a l' hz, by
                      rw [hrows4]; have := hb.le; simp; omega⟩
                  refine ⟨r', top2 (j1f ?_), k2⟩
                  rw [decide_eq_false hlen]
                  refine Ev.succ (fun k => larderref04_read.j2.eq_2 ..) (Ev.neg (by decide) (Ev.pos (by rw [rws_len]; have := hb.le; omega) (Ev.bind1 rfl (Ev.neg (by show ¬ (q : Int) = _; omega) ?_))))
                  rw [rws_snoc, w2 _ (by omega), ← hrows4]
                  exact k1
              · have e10 : ((bt t ((q + 1 : Nat) : Int)) != 10) = true := by
                  rw [bne, Bool.not_eq_true', beq_eq_false_iff_ne]
                  exact fun e => h10 ((bt_is t (q + 1) hq2 10).1 e)
                rw [e10] at top2
                have eF : RS.next (up ((up s2).cr.on (L8 t)[q])) (L8 t)[q + 1] = (up ((up s2).cr.on (L8 t)[q])).fail ((up s2).cr.on (L8 t)[q]).ml ((up s2).cr.on (L8 t)[q]).mc 3 := by
                  rw [hnb, RS.back, if_neg h10]; rfl
                have hg := (reach_step t hs hq2 hn).2 (by rw [eF]; intro h; cases h)
                rw [eF] at hg
                refine ⟨badT t s.rows 3 q, top2 ?_, .inl ⟨s.rows, 3, q, by omega, rfl, hql, ?_, .inl ⟨?_, by omega, by omega, fun _ => .inr hq2, by omega⟩⟩⟩
                · refine Ev.succ (fun k => larderref04_read.j1.eq_2 ..) (Ev.pos rfl (Ev.bind (placed_ev t 3 q hql (by omega)) ?_))
                  rw [rws_len]
                  exact Ev.here
                · rw [hg, ((on_same _ _).1).rows]
                  exact o1.rows.trans sr.rows
                · rw [hg, on_fault, ← hpos]; rfl
        · refine ⟨badT t s.rows c q, top (Ev.neg (by show ¬ (c : Int) = 0; omega) ?_), .inl ⟨s.rows, c, q, hc0, rfl, hbad⟩⟩
          rw [rws_len]
          exact Ev.here
    · have hpe : p = (L8 t).length := by have := hr.le; omega
      exact ih p s (by omega) hr hb
theorem read_ev (hn : (L8 t).length ≤ 262144) : ∃ r, Ev (fun k => larderref04_read.f k t) r ∧ TR t r :=
  read_l t hn _ 0 RS.new (Nat.le_refl _) (reach_new t) ⟨rfl, rfl, rfl, rfl, by intro r l e; (cases e), by decide⟩
end Go.Proofs.YtappphffbnkloaaGreatDoor.Sht
set_option linter.unusedVariables false
set_option linter.unusedSimpArgs false
namespace Go.Proofs.YtappphffbnkloaaGreatDoor.Sht
open Go Go.RowKit Go.Proofs.YtappphffbnkloaaGreatDoorW.PrintWords Go.Proofs.YtappphffbnkloaaGreatDoor.GS
theorem groups_ev : ∀ (d : Nat) (x : Int) (xs : List Int), 0 ≤ x → x < 128 ^ d → d ≤ 8 → xs.length + d ≤ 1000 → ∃ r, Ev (fun k => larderref01_groups.l0 k x xs) r ∧ r.length ≤ xs.length + d + 1 := by
  intro d
  induction d with
  | zero =>
    intro x xs h0 h1 _ hl
    refine ⟨_, Ev.succ (fun k => larderref01_groups.l0.eq_2 ..) (Ev.neg (by simp at h1; omega) (Ev.pos (by omega) Ev.here)), by simp⟩
  | succ d ih =>
    intro x xs h0 h1 hd hl
    by_cases hx : x ≥ 128
    · have hp : (128 : Int) ^ (d + 1) ≤ 72057594037927936 := by
        have : ∀ n, n ≤ 8 → (128 : Int) ^ n ≤ 72057594037927936 := by
          intro n hn
          match n, hn with
          | 0, _ => decide
          | 1, _ => decide
          | 2, _ => decide
          | 3, _ => decide
          | 4, _ => decide
          | 5, _ => decide
          | 6, _ => decide
          | 7, _ => decide
          | 8, _ => decide
        exact this _ hd
      have e : IntKind.u64.wrap (Int.tdiv x 128) = x / 128 := by
        rw [Int.tdiv_eq_ediv_of_nonneg h0, IntKind.wrap_u64]
        omega
      have hlt : x / 128 < 128 ^ d := by
        rw [Int.pow_succ] at h1
        omega
      obtain ⟨r, hr, hrl⟩ := ih (x / 128) (xs ++ [(IntKind.u64.wrap ((Int.tmod x 128) + 128)) % 256]) (by omega) hlt (by omega) (by simp; omega)
      refine ⟨r, Ev.succ (fun k => larderref01_groups.l0.eq_2 ..) (Ev.pos hx (Ev.pos (by omega) ?_)), by simp at hrl; omega⟩
      rw [e]
      exact hr
    · refine ⟨_, Ev.succ (fun k => larderref01_groups.l0.eq_2 ..) (Ev.neg hx (Ev.pos (by omega) Ev.here)), by simp⟩
theorem strOf_size (l : List Int) : (strOfNums l).size = l.length := by
  show (⟨((l.map fun n => UInt8.ofNat n.toNat)).toArray⟩ : ByteArray).size = _
  simp [ByteArray.size]
theorem app_size (a b : ByteArray) : (a ++ b).size = a.size + b.size := ByteArray.size_append
theorem row_told (x0 : List (List ByteArray)) (i : Nat) (r : List ByteArray) (hi : i < x0.length) (hx : x0.length ≤ 1000000) (hr : rd_L2 x0 (i : Int) = r) (hrl : r.length ≤ 1000) (hc : ∀ c ∈ r, c.size ≤ 100000)
    (ih : ∀ acc : ByteArray, acc.size ≤ (i + 1) * 100011002 → ∃ R, Ev (fun k => larderref01_told.l0 k x0 acc ((i + 1 : Nat) : Int)) R) :
    ∀ (d j : Nat) (acc : ByteArray), r.length - j = d → j ≤ r.length → acc.size ≤ i * 100011002 + j * 100011 → ∃ R, Ev (fun k => larderref01_told.l1 k x0 acc (i : Int) (j : Int)) R := by
  intro d
  induction d with
  | zero =>
    intro j acc hd hj ha
    obtain rfl : j = r.length := by omega
    have k1 : (i + 1) * 100011002 = i * 100011002 + 100011002 := by rw [Nat.add_mul, Nat.one_mul]
    have k2 : r.length * 100011 ≤ 1000 * 100011 := Nat.mul_le_mul_right _ hrl
    have k3 : (acc ++ (⟨#[128, 0]⟩ : ByteArray)).size = acc.size + 2 := app_size _ _
    obtain ⟨R, hR⟩ := ih (acc ++ ⟨#[128, 0]⟩) (by rw [k3, k1]; omega)
    refine ⟨R, Ev.succ (fun k => larderref01_told.l1.eq_2 ..) (Ev.pos (by omega) (Ev.pos (by omega) (Ev.neg (by rw [hr]; omega) (Ev.pos ?_ ?_))))⟩
    · have : i * 100011002 ≤ 1000000 * 100011002 := Nat.mul_le_mul_right _ (by omega)
      have : r.length * 100011 ≤ 1000 * 100011 := Nat.mul_le_mul_right _ hrl
      omega
    · rw [show wrap64 ((i : Int) + 1) = ((i + 1 : Nat) : Int) from by rw [w1 _ (by omega)]]
      exact hR
  | succ d ihd =>
    intro j acc hd hj ha
    have hj' : j < r.length := by omega
    have hcj : rdOf ByteArray.empty r (j : Int) = r[j] := by
      unfold rdOf
      rw [Int.toNat_natCast, List.getD_eq_getElem?_getD, List.getElem?_eq_getElem hj']
      rfl
    have hsz := hc r[j] (List.getElem_mem hj')
    obtain ⟨g, hg, hgl⟩ := groups_ev 3 ((r[j].size : Nat) : Int) [] (by omega) (by simp; omega) (by omega) (by simp)
    have hgs : (strOfNums g).size ≤ 4 := by rw [strOf_size]; simpa using hgl
    have hm1 : i * 100011002 ≤ 1000000 * 100011002 := Nat.mul_le_mul_right _ (by omega)
    have hm2 : j * 100011 ≤ 1000 * 100011 := Nat.mul_le_mul_right _ (by omega)
    have k1 : (j + 1) * 100011 = j * 100011 + 100011 := by rw [Nat.add_mul, Nat.one_mul]
    have k3 : ((acc ++ strOfNums g) ++ r[j]).size = acc.size + (strOfNums g).size + r[j].size := by rw [app_size, app_size]
    obtain ⟨R, hR⟩ := ihd (j + 1) ((acc ++ strOfNums g) ++ r[j]) (by omega) (by omega) (by rw [k3, k1]; omega)
    refine ⟨R, Ev.succ (fun k => larderref01_told.l1.eq_2 ..) (Ev.pos (by omega) (Ev.pos (by omega) (Ev.pos (by rw [hr]; omega) (Ev.pos (by omega) ?_))))⟩
    rw [hr, hcj]
    have e : IntKind.u64.wrap ((r[j].size : Nat) : Int) = ((r[j].size : Nat) : Int) := by rw [IntKind.wrap_u64]; omega
    rw [e]
    refine Ev.bind hg (Ev.pos (by omega) (Ev.pos (by omega) ?_))
    rw [show wrap64 ((j : Int) + 1) = ((j + 1 : Nat) : Int) from by rw [w1 _ (by omega)]]
    exact hR
theorem told_total (x0 : List (List ByteArray)) (hx : x0.length ≤ 1000000) (hr : ∀ r ∈ x0, r.length ≤ 1000 ∧ ∀ c ∈ r, c.size ≤ 100000) : ∃ R, Ev (fun k => larderref01_told.f k x0) R := by
  have h : ∀ (d i : Nat) (acc : ByteArray), x0.length - i = d → i ≤ x0.length → acc.size ≤ i * 100011002 → ∃ R, Ev (fun k => larderref01_told.l0 k x0 acc (i : Int)) R := by
    intro d
    induction d with
    | zero =>
      intro i acc hd hi ha
      exact ⟨acc, Ev.succ (fun k => larderref01_told.l0.eq_2 ..) (Ev.neg (by omega) Ev.here)⟩
    | succ d ih =>
      intro i acc hd hi ha
      have hi' : i < x0.length := by omega
      have e : rd_L2 x0 (i : Int) = x0[i] := by
        unfold rd_L2
        rw [Int.toNat_natCast, List.getD_eq_getElem?_getD, List.getElem?_eq_getElem hi']
        rfl
      obtain ⟨h1, h2⟩ := hr x0[i] (List.getElem_mem hi')
      obtain ⟨R, hR⟩ := row_told x0 i x0[i] hi' hx e h1 h2 (fun acc' ha' => ih (i + 1) acc' (by omega) (by omega) ha') _ 0 acc rfl (Nat.zero_le _) (by rw [Nat.zero_mul, Nat.add_zero]; exact ha)
      exact ⟨R, Ev.succ (fun k => larderref01_told.l0.eq_2 ..) (Ev.pos (by omega) hR)⟩
  obtain ⟨R, hR⟩ := h _ 0 ⟨#[]⟩ rfl (Nat.zero_le _) (by decide)
  exact ⟨R, hR⟩
end Go.Proofs.YtappphffbnkloaaGreatDoor.Sht
set_option linter.unusedVariables false
set_option linter.unusedSimpArgs false
namespace Go.Proofs.YtappphffbnkloaaGreatDoor.Sht
open Go Go.RowKit Go.Proofs.YtappphffbnkloaaGreatDoorW.PrintWords Go.Proofs.YtappphffbnkloaaGreatDoor.GS
theorem feed_pos : ∀ (l : List UInt8) (s : RS), s.fault = none → (s.feed l).fault = none → (s.feed l).all = s.all + l.length ∧ ((s.feed l).line, (s.feed l).col) = l.foldl lcS (s.line, s.col)
  | [], s, _, _ => ⟨rfl, rfl⟩
  | x :: l, s, h, hf => by
    rw [feed_cons h] at hf ⊢
    have h1 : (s.step x).fault = none := by
      cases hc : (s.step x).fault with
      | none => rfl
      | some f => rw [feed_stop (by rw [hc]; simp), hc] at hf; cases hf
    have hn : s.all ≠ 262144 := fun e => by rw [RS.step, if_pos e] at h1; cases h1
    have hk := kNext (up s) x
    have e : s.step x = (RS.next (up s) x).on x := step_on hn x
    obtain ⟨k1, k2⟩ := feed_pos l _ h1 hf
    refine ⟨?_, ?_⟩
    · rw [k1, e]
      have : ((RS.next (up s) x).on x).all = s.all + 1 := by
        unfold RS.on
        split <;> exact hk.all
      rw [this, List.length_cons]; omega
    · rw [k2, e, List.foldl_cons]
      congr 1
      unfold RS.on lcS
      split
      · show ((RS.next (up s) x).line + 1, 0) = (s.line + 1, 0)
        rw [hk.line]; rfl
      · show ((RS.next (up s) x).line, (RS.next (up s) x).col + 1) = (s.line, s.col + 1)
        rw [hk.line, hk.col]; rfl
theorem md_cases (s : RS) : s.md = .fresh ∨ (s.md = .start ∨ s.md = .plain ∨ s.md = .closed) ∨ s.md = .quoted ∨ s.md = .back := by
  cases s.md <;> simp
theorem over_fresh {s : RS} (h : s.md = .fresh) : s.over = s := by unfold RS.over; rw [h]
theorem over_row {s : RS} (h : s.md = .start ∨ s.md = .plain ∨ s.md = .closed) : s.over = s.endCell.endRow s.line s.col := by
  rcases h with h | h | h <;> (unfold RS.over; rw [h])
theorem over_quoted {s : RS} (h : s.md = .quoted) : s.over = s.fail s.ml s.mc 1 := by unfold RS.over; rw [h]
theorem over_back {s : RS} (h : s.md = .back) : s.over = s.fail s.ml s.mc 3 := by unfold RS.over; rw [h]
variable (t : ByteArray)
theorem extract_len (n : Nat) (h : n ≤ (L8 t).length) : L8 (t.extract 0 n) = (L8 t).take n := by
  have e : t.extract 0 n = tx ((L8 t).take n) := by
    have := extract_tx t 0 n (Nat.zero_le _) h
    simpa using this
  rw [e]; rfl
theorem shows_bad (rows : List (List (List UInt8))) (c q : Nat) (hc : c ≠ 0) (hl : (L8 t).length ≤ 281474976710656) (h : Bad t rows c q) :
    Ev (fun k => larderref04_shows.f k t (plc t c q).1 (plc t c q).2.1 (plc t c q).2.2.1 (plc t c q).2.2.2.1 (plc t c q).2.2.2.2) (RS.new.feed (L8 t)).fault.isSome := by
  have hsz := L8_len t
  obtain ⟨hq, hr, h⟩ := h
  have hcz : ¬ ((c : Int) = 0) := by omega
  refine Ev.of (fun k => rfl) (Ev.neg (show ¬ (c : Int) = 0 from hcz) ?_)
  rcases h with ⟨h1, h2, h3, h4, h5⟩ | ⟨h1, h2, h3⟩
  · have e : (RS.new.feed (L8 t)).fault.isSome = true := by rw [h1]; rfl
    rw [e]
    have e1 : ((plc t (c : Int) q).1 == 1) = false := by
      show ((c : Int) == 1) = false
      rw [beq_eq_false_iff_ne]; omega
    rw [e1]
    refine Ev.succ (fun k => larderref04_shows.j0.eq_2 ..) (Ev.neg (by decide) ?_)
    by_cases c3 : c = 3
    · refine Ev.pos (show (c : Int) = 3 by omega) (Ev.pos (show (0 : Int) ≤ q by omega) ?_)
      rcases h4 c3 with ⟨hh, hx⟩ | hh
      · exact Ev.pos (show (q : Int) < (t.size : Int) by omega) (Ev.pos ((bt_is t q hh 10).2 hx) Ev.here)
      · refine Ev.pos (show (q : Int) < (t.size : Int) by omega) ?_
        by_cases hx : bt t (q : Int) = 10
        · exact Ev.pos hx Ev.here
        · refine Ev.neg hx (Ev.const ?_)
          show some (decide (wrap64 ((q : Int) + 1) < (t.size : Int))) = _
          rw [w1 _ (by omega)]
          congr 1
          exact decide_eq_true (by omega)
    · refine Ev.neg (show ¬ (c : Int) = 3 by omega) ?_
      by_cases c8 : c = 8
      · refine Ev.pos (show (c : Int) = 8 by omega) (Ev.const ?_)
        show some (decide ((q : Int) < (t.size : Int))) = _
        congr 1
        have := h5 c8
        exact decide_eq_true (by omega)
      · exact Ev.neg (show ¬ (c : Int) = 8 by omega) Ev.here
  · have e : (RS.new.feed (L8 t)).fault.isSome = false := by rw [h1]; rfl
    rw [e]
    by_cases c1 : c = 1
    · have e1 : ((plc t (c : Int) q).1 == 1) = true := by show ((c : Int) == 1) = true; rw [c1]; rfl
      rw [e1]
      exact Ev.succ (fun k => larderref04_shows.j0.eq_2 ..) (Ev.pos rfl Ev.here)
    · have e1 : ((plc t (c : Int) q).1 == 1) = false := by
        show ((c : Int) == 1) = false
        rw [beq_eq_false_iff_ne]; omega
      rw [e1]
      refine Ev.succ (fun k => larderref04_shows.j0.eq_2 ..) (Ev.neg (by decide) ?_)
      rcases h3 with h3 | ⟨c3, hq1, hh, hx⟩ | ⟨c8, hq8⟩
      · exact absurd h3 c1
      · refine Ev.pos (show (c : Int) = 3 by omega) (Ev.pos (show (0 : Int) ≤ q by omega) (Ev.pos (show (q : Int) < (t.size : Int) by omega) (Ev.neg (fun e => hx ((bt_is t q hh 10).1 e)) (Ev.const ?_))))
        show some (decide (wrap64 ((q : Int) + 1) < (t.size : Int))) = _
        rw [w1 _ (by omega)]
        congr 1
        exact decide_eq_false (by omega)
      · refine Ev.neg (show ¬ (c : Int) = 3 by omega) (Ev.pos (show (c : Int) = 8 by omega) (Ev.const ?_))
        show some (decide ((q : Int) < (t.size : Int))) = _
        congr 1
        exact decide_eq_false (by omega)
theorem shows_ok : Ev (fun k => larderref04_shows.f k t 0 0 0 0 0) false := by
  refine Ev.of (fun k => rfl) (Ev.pos rfl ?_)
  exact Ev.succ (fun k => larderref04_shows.j0.eq_2 ..) (Ev.pos rfl Ev.here)
theorem Read_ev (hl : (L8 t).length ≤ 281474976710656) : ∃ r, Ev (fun k => larderref04_Read.f k t) r ∧ TR t r := by
  have hsz := L8_len t
  by_cases hs : (L8 t).length ≤ 262144
  · obtain ⟨r, h1, h2⟩ := read_ev t hs
    refine ⟨r, Ev.of (fun k => rfl) (Ev.pos (by omega) (Ev.bind h1 ?_)), h2⟩
    exact Ev.here
  · obtain ⟨m, hm⟩ : ∃ m, m = t.extract 0 262144 := ⟨_, rfl⟩
    have hL : L8 m = (L8 t).take 262144 := by rw [hm]; exact extract_len t 262144 (by omega)
    have hml : (L8 m).length = 262144 := by rw [hL, List.length_take]; omega
    obtain ⟨r, h1, h2⟩ := read_ev m (by omega)
    have hsplit : RS.new.feed (L8 t) = (RS.new.feed (L8 m)).feed ((L8 t).drop 262144) := by
      rw [hL, ← feed_app, List.take_append_drop]
    have top : ∀ {b : Bool} {r' : Txt}, Ev (fun k => larderref04_shows.f k m r.2.2.1 r.2.2.2.1 r.2.2.2.2.1 r.2.2.2.2.2.1 r.2.2.2.2.2.2) b →
        Ev (fun k => (if b = true then (some (r.1, r.2.1, r.2.2.1, r.2.2.2.1, r.2.2.2.2.1, r.2.2.2.2.2.1, r.2.2.2.2.2.2)) else (if 0 ≤ r.2.1 then (if r.2.1 ≤ (r.1.length : Int) then ((larderref04_placed.f k t 20 262144).bind fun bt280125 => (some ((r.1.take (r.2.1 : Int).toNat), r.2.1, bt280125.1, bt280125.2.1, bt280125.2.2.1, bt280125.2.2.2.1, bt280125.2.2.2.2))) else (none)) else (none)))) r' → Ev (fun k => larderref04_Read.f k t) r' := by
      intro b r' e1 e2
      refine Ev.of (fun k => rfl) (Ev.neg (by omega) (Ev.pos (by decide) (Ev.pos (by omega) ?_)))
      rw [← hm]
      exact Ev.bind h1 (Ev.bind e1 e2)
    have hplc : ∀ (c : Int) (q : Nat), q ≤ 262144 → plc m c q = plc t c q := by
      intro c q hq
      unfold plc
      rw [hL, List.take_take, Nat.min_eq_left hq]
    -- the text goes on where no fault shows
    have long : (RS.new.feed (L8 m)).fault = none → (RS.new.feed (L8 t)).fault = some ((lc ((L8 t).take 262144)).1, (lc ((L8 t).take 262144)).2, 20) ∧ (RS.new.feed (L8 t)).rows = (RS.new.feed (L8 m)).rows := by
      intro hf
      obtain ⟨k1, k2⟩ := feed_pos (L8 m) RS.new rfl hf
      have k1' : (RS.new.feed (L8 m)).all = 262144 := by rw [k1, hml]; rfl
      have e : RS.new.feed (L8 t) = (RS.new.feed (L8 m)).fail (RS.new.feed (L8 m)).line (RS.new.feed (L8 m)).col 20 := by
        rw [hsplit, List.drop_eq_getElem_cons (by omega), feed_cons hf, RS.step, if_pos k1']
        exact feed_stop (by intro e; cases e) _
      refine ⟨?_, by rw [e]; rfl⟩
      rw [e]
      show some (RS.line _, RS.col _, 20) = _
      have k3 : ((RS.new.feed (L8 m)).line, (RS.new.feed (L8 m)).col) = lc ((L8 t).take 262144) := by rw [← hL]; exact k2
      rw [← k3]
    have hpe : Ev (fun k => larderref04_placed.f k t 20 262144) (plc t 20 262144) := placed_ev t 20 262144 (by omega) hl
    rcases h2 with ⟨rows, c, q, hc, rfl, hbad⟩ | ⟨rows, n, rfl, hf1, hf2, hf3, hf4, hn⟩
    · have hq : q ≤ 262144 := by have := hbad.1; omega
      have hsh := shows_bad m rows c q hc (by omega) hbad
      by_cases hf : (RS.new.feed (L8 m)).fault = none
      · have hb : (RS.new.feed (L8 m)).fault.isSome = false := by rw [hf]; rfl
        rw [hb] at hsh
        obtain ⟨g1, g2⟩ := long hf
        refine ⟨badT t rows 20 262144, top hsh (Ev.neg (by decide) (Ev.pos (show (0 : Int) ≤ (rows.length : Int) by omega) (Ev.pos (show (rows.length : Int) ≤ ((rws rows).length : Int) by rw [rws_len]; omega) (Ev.bind hpe (Ev.const ?_))))), .inl ⟨rows, 20, 262144, by omega, rfl, by omega, by rw [g2]; exact hbad.2.1, .inl ⟨g1, by omega, by omega, by omega, by omega⟩⟩⟩
        show some ((rws rows).take ((rows.length : Int)).toNat, _) = _
        rw [show ((rows.length : Int)).toNat = rows.length by simp, ← rws_len, List.take_length]
        rfl
      · have hb : (RS.new.feed (L8 m)).fault.isSome = true := by
          cases hz : (RS.new.feed (L8 m)).fault with
          | none => exact absurd hz hf
          | some f => rfl
        rw [hb] at hsh
        have hfe : RS.new.feed (L8 t) = RS.new.feed (L8 m) := by rw [hsplit, feed_stop hf]
        refine ⟨_, top hsh (Ev.pos rfl Ev.here), .inl ⟨rows, c, q, hc, ?_, by omega, by rw [hfe]; exact hbad.2.1, .inl ?_⟩⟩
        · show (rws rows, (rows.length : Int), plc m c q) = (rws rows, (rows.length : Int), plc t c q)
          rw [hplc _ _ hq]
        · rcases hbad.2.2 with ⟨a1, a2, a3, a4, a5⟩ | ⟨a1, _⟩
          · refine ⟨?_, a2, a3, fun e => ?_, fun e => ?_⟩
            · rw [hfe, a1, hL, List.take_take, Nat.min_eq_left hq]
            · rcases a4 e with ⟨hh, hx⟩ | hh
              · refine .inl ⟨by omega, ?_⟩
                have : (L8 m)[q] = (L8 t)[q]'(by omega) := by simp only [hL, List.getElem_take]
                rw [← this]; exact hx
              · exact .inr (by omega)
            · have := a5 e; omega
          · exact absurd a1 hf
    · obtain ⟨g1, g2⟩ := long hf1
      refine ⟨badT t (rows.take n) 20 262144, top (shows_ok m) (Ev.neg (by decide) (Ev.pos (show (0 : Int) ≤ (n : Int) by omega) (Ev.pos (show (n : Int) ≤ ((rws rows).length : Int) by rw [rws_len]; omega) (Ev.bind hpe (Ev.const ?_))))), .inl ⟨rows.take n, 20, 262144, by omega, rfl, by omega, by rw [g2]; exact hf4, .inl ⟨g1, by omega, by omega, by omega, by omega⟩⟩⟩
      show some ((rws rows).take ((n : Int)).toNat, (n : Int), _) = some (rws (rows.take n), ((rows.take n).length : Int), _)
      have e1 : (rws rows).take n = rws (rows.take n) := by simp [rws]
      rw [show ((n : Int)).toNat = n by simp, e1, List.length_take, Nat.min_eq_left hn]
      rfl
end Go.Proofs.YtappphffbnkloaaGreatDoor.Sht
set_option linter.unusedVariables false
set_option linter.unusedSimpArgs false
namespace Go.Proofs.YtappphffbnkloaaGreatDoor.Sht
open Go Go.RowKit Go.Extern.Stop Go.Stop Go.Extern
theorem isTypeOf (v : Value) (w : World) : (Extern.ReflectliteType.typeOf #[.iface 215 v]).run Tryz.prog w = .ok (.iface 152 (.agg #[.pointer (some ⟨27, 215, none⟩)])) w := by kernel_rfl
theorem isComparable (w : World) : ((Extern.ReflectliteType.method fun t => do _root_.Go.Extern.Rtype.noPackHeld "Comparable" t; pure (.bool (← typeInfo t).comparable)) #[.agg #[.pointer (some ⟨27, 215, none⟩)]]).run Tryz.prog w = .ok (.bool true) w := by kernel_rfl
theorem isMethodComparable (v : Value) (w : World) : (Go.method 345 152 v "Comparable").run Tryz.prog w = .ok (167, v) w := by kernel_rfl
theorem isComp : (Tryz.prog.info? 215).map (·.comparable) = some true := by kernel_rfl
theorem isSize : (Tryz.prog.info? 233).map (·.size) = some 1 := by kernel_rfl
theorem noIsE (v : Value) (xT : TypeId) (w : World) : (Instr.typeAssert (.iface 215 v) xT 162 true).run Tryz.prog w = .ok (.tuple #[.nilIface, .bool false]) w := run_typeAssert_lacksB Tryz.underlying162 (by kernel_rfl) (by kernel_rfl) v xT w
theorem noUnwrapE (v : Value) (xT : TypeId) (w : World) : (Instr.typeAssert (.iface 215 v) xT 159 true).run Tryz.prog w = .ok (.tuple #[.nilIface, .bool false]) w := run_typeAssert_lacksB Tryz.underlying159 (by kernel_rfl) (by kernel_rfl) v xT w
theorem noUnwrapsE (v : Value) (xT : TypeId) (w : World) : (Instr.typeAssert (.iface 215 v) xT 160 true).run Tryz.prog w = .ok (.tuple #[.nilIface, .bool false]) w := run_typeAssert_lacksB Tryz.underlying160 (by kernel_rfl) (by kernel_rfl) v xT w
theorem noIsF (v : Value) (xT : TypeId) (w : World) : (Instr.typeAssert (.iface 65 v) xT 162 true).run Tryz.prog w = .ok (.tuple #[.nilIface, .bool false]) w := run_typeAssert_lacksB Tryz.underlying162 (by kernel_rfl) (by kernel_rfl) v xT w
theorem unwrapF (v : Value) (xT : TypeId) (w : World) : (Instr.typeAssert (.iface 65 v) xT 159 true).run Tryz.prog w = .ok (.tuple #[.iface 65 v, .bool true]) w := run_typeAssert_hasB Tryz.underlying159 (by kernel_rfl) v xT w
theorem methodUnwrapF (v : Value) (w : World) : (Go.method 345 65 v "Unwrap").run Tryz.prog w = .ok (29, v) w := by kernel_rfl
/-- errors.Is(nil, x) -/
theorem is_nil (a : Addr) (w : World) : Calls Tryz.prog 27 #[.nilIface, .iface 215 (.pointer (some a))] w fun e w' => e = .returned (.bool false) ∧ w = w' := by
  have q := fun w : World => run_eql_iface_nil_left (P := Tryz.prog) (w := w) 215 (.pointer (some a)) Tryz.underlying41
  go_enter Tryz.func27, Tryz.ntmps27
  go_wp2
  go_ret
  exact ⟨rfl, rfl⟩
set_option maxHeartbeats 4000000 in
theorem is_fault_yes (g : Nat) (a : Addr) (l c : Value) (w : World) (hg : w.heap[g]? = some (.cells #[l, c, .iface 215 (.pointer (some a))] 70 (0, 0))) :
    Calls Tryz.prog 27 #[.iface 65 (PT g), .iface 215 (.pointer (some a))] w fun e w' => e = .returned (.bool true) ∧ w = w' := by
  obtain ⟨i, hi, hcmp⟩ := Option.map_eq_some_iff.1 isComp
  obtain ⟨j, hj, hjs⟩ := Option.map_eq_some_iff.1 isSize
  have h8 := @run_callFunc_extern Tryz.prog 66 _ Extern.ReflectliteType.typeOf Tryz.func66 (by kernel_rfl) (by kernel_rfl) (by kernel_rfl) (by kernel_rfl)
  have h32 := fun w => @run_callFunc_extern Tryz.prog 167 _ (Extern.ReflectliteType.method fun t => do _root_.Go.Extern.Rtype.noPackHeld "Comparable" t; pure (.bool (← typeInfo t).comparable)) Tryz.func167 (by kernel_rfl) (by kernel_rfl) (by kernel_rfl) (by kernel_rfl) #[.agg #[.pointer (some ⟨27, 215, none⟩)]] w
  simp only [isComparable] at h32
  have tT := isTypeOf
  have cT := isComparable
  have mR := isMethodComparable
  have nF := noIsF
  have uF := unwrapF
  have mU := methodUnwrapF
  have c2 : w.cell? ⟨g, 2, none⟩ = some (.iface 215 (.pointer (some a))) := (bcell hg 2).trans rfl
  have hqt := fun w : World => run_eql_iface_types (P := Tryz.prog) 65 215 (PT g) (.pointer (some a)) Tryz.underlying41 (by decide) w
  have heq := run_eql_iface_ptr_same (P := Tryz.prog) w a Tryz.underlying41 Tryz.underlying215 hi hcmp hj
  go_enter Tryz.func27, Tryz.ntmps27
  go_wp2
  refine wp_loop_rounds 2 ?_
  rw [rounds_succ]
  go_wp2
  rw [rounds_succ]
  go_wp2
  go_ret
  exact ⟨rfl, rfl⟩
set_option maxHeartbeats 4000000 in
theorem is_fault_no (g : Nat) (a a' : Addr) (l c : Value) (ca cb : Array Value) (ta tb : TypeId) (w : World) (hg : w.heap[g]? = some (.cells #[l, c, .iface 215 (.pointer (some a))] 70 (0, 0)))
    (hne : a ≠ a') (ha : w.heap[a.block]? = some (.cells ca ta (0, 0))) (hb : w.heap[a'.block]? = some (.cells cb tb (0, 0))) : Calls Tryz.prog 27 #[.iface 65 (PT g), .iface 215 (.pointer (some a'))] w fun e w' => e = .returned (.bool false) ∧ w = w' := by
  obtain ⟨i, hi, hcmp⟩ := Option.map_eq_some_iff.1 isComp
  obtain ⟨j, hj, hjs⟩ := Option.map_eq_some_iff.1 isSize
  have h8 := @run_callFunc_extern Tryz.prog 66 _ Extern.ReflectliteType.typeOf Tryz.func66 (by kernel_rfl) (by kernel_rfl) (by kernel_rfl) (by kernel_rfl)
  have h32 := fun w => @run_callFunc_extern Tryz.prog 167 _ (Extern.ReflectliteType.method fun t => do _root_.Go.Extern.Rtype.noPackHeld "Comparable" t; pure (.bool (← typeInfo t).comparable)) Tryz.func167 (by kernel_rfl) (by kernel_rfl) (by kernel_rfl) (by kernel_rfl) #[.agg #[.pointer (some ⟨27, 215, none⟩)]] w
  simp only [isComparable] at h32
  have tT := isTypeOf
  have cT := isComparable
  have mR := isMethodComparable
  have nF := noIsF
  have uF := unwrapF
  have mU := methodUnwrapF
  have c2 : w.cell? ⟨g, 2, none⟩ = some (.iface 215 (.pointer (some a))) := (bcell hg 2).trans rfl
  have hqt := fun w : World => run_eql_iface_types (P := Tryz.prog) 65 215 (PT g) (.pointer (some a')) Tryz.underlying41 (by decide) w
  have heq := run_eql_iface_ptr_other (P := Tryz.prog) w Tryz.underlying41 Tryz.underlying215 hi hcmp hj (by rw [hjs]; decide) hne ha hb
  have nE := noIsE
  have uE := noUnwrapE
  have vE := noUnwrapsE
  go_enter Tryz.func27, Tryz.ntmps27
  go_wp2
  refine wp_loop_rounds 2 ?_
  rw [rounds_succ]
  go_wp2
  rw [rounds_succ]
  go_wp2
  go_ret
  exact ⟨rfl, rfl⟩
/-- errors.As(nil, target). -/
theorem as_nil (t : Value) (w : World) : Calls Tryz.prog 25 #[.nilIface, t] w fun e w' => e = .returned (.bool false) ∧ w = w' := by
  go_enter Tryz.func25, Tryz.ntmps25
  go_wp2
  go_ret
  exact ⟨rfl, rfl⟩
abbrev hd (t : TypeId) : Value := .pointer (some ⟨27, t, none⟩)
theorem valueOfPF (t : Addr) (w : World) : (ReflectliteValue.unpack (.iface 67 (.pointer (some t)))).run Tryz.prog w
    = .ok (.agg #[hd 67, .pointer (some ⟨w.heap.size, 0, none⟩), .int .u64 150]) (w.alloc (.cells #[.pointer (some t)] 67)) := by kernel_rfl
theorem typePF (a : Addr) (w : World) : (ReflectliteValue.methodAny (ReflectliteValue.valueError "reflectlite.Value.Type" 0) (fun t _ _ _ => ReflectliteType.toType t) #[.agg #[hd 67, .pointer (some a), .int .u64 150]]).run Tryz.prog w
    = .ok (.iface 152 (.agg #[hd 67])) w := by kernel_rfl
theorem methodKind (h : Value) (w : World) : (Go.method 345 152 (.agg #[h]) "Kind").run Tryz.prog w = .ok (158, h) w := by kernel_rfl
theorem kindPF (w : World) : ((ReflectliteType.abiMethod fun t => (fun a : Nat => Value.int IntKind.u8 (a : Int)) <$> Rtype.kind t) #[hd 67]).run Tryz.prog w = .ok (.int .u8 22) w := by kernel_rfl
theorem kindF (w : World) : ((ReflectliteType.abiMethod fun t => (fun a : Nat => Value.int IntKind.u8 (a : Int)) <$> Rtype.kind t) #[hd 65]).run Tryz.prog w = .ok (.int .u8 22) w := by kernel_rfl
theorem rlm (z : Sem Value) (f : TypeId → Addr → Nat → Nat → Sem Value) (v : Value) :
    ReflectliteValue.method z f #[v] = (do match ← ReflectliteValue.parts v with | none => z | some (t, a, fl) => f t a fl (fl % 32)) := rfl
theorem partsPF (a : Addr) (w : World) : (ReflectliteValue.parts (.agg #[hd 67, .pointer (some a), .int .u64 150])).run Tryz.prog w = .ok (some (67, a, 150)) w := by kernel_rfl
theorem isNilPF (a p : Addr) (W : World) (ha : W.cell? a = some (.pointer (some p))) :
    (ReflectliteValue.method (ReflectliteValue.valueError "reflectlite.Value.IsNil" 0) ReflectliteValue.isNil #[.agg #[hd 67, .pointer (some a), .int .u64 150]]).run Tryz.prog W = .ok (.bool false) W := by
  rw [rlm]
  simp only [Sem.run_bind, partsPF, Result.andThen]
  simp [ReflectliteValue.isNil, loadVar, isAgg, underlying, Tryz.underlying67, ha, Result.andThen]
theorem methodElem (h : Value) (w : World) : (Go.method 345 152 (.agg #[h]) "Elem").run Tryz.prog w = .ok (168, .agg #[h]) w := by kernel_rfl
theorem methodImplements (h : Value) (w : World) : (Go.method 345 152 (.agg #[h]) "Implements").run Tryz.prog w = .ok (169, .agg #[h]) w := by kernel_rfl
theorem methodAssignableTo (h : Value) (w : World) : (Go.method 345 152 (.agg #[h]) "AssignableTo").run Tryz.prog w = .ok (166, .agg #[h]) w := by kernel_rfl
theorem elemPF (w : World) : (ReflectliteType.method ReflectliteType.elem #[.agg #[hd 67]]).run Tryz.prog w = .ok (.iface 152 (.agg #[hd 65])) w := by kernel_rfl
theorem implementsF (w : World) : (ReflectliteType.relation "Implements" ReflectliteType.implements_ #[.agg #[hd 65], .iface 152 (.agg #[hd 41])]).run Tryz.prog w = .ok (.bool true) w := by kernel_rfl
theorem typeOfF (v : Value) (w : World) : (ReflectliteType.typeOf #[.iface 65 v]).run Tryz.prog w = .ok (.iface 152 (.agg #[hd 65])) w := by kernel_rfl
theorem assignableF (w : World) : (ReflectliteType.relation "AssignableTo" ReflectliteType.assignableTo #[.agg #[hd 65], .iface 152 (.agg #[hd 65])]).run Tryz.prog w = .ok (.bool true) w := by kernel_rfl
theorem valueOfF (e : Addr) (w : World) : (ReflectliteValue.unpack (.iface 65 (.pointer (some e)))).run Tryz.prog w
    = .ok (.agg #[hd 65, .pointer (some ⟨w.heap.size, 0, none⟩), .int .u64 150]) (w.alloc (.cells #[.pointer (some e)] 65)) := by kernel_rfl
theorem elemOfPF (w : World) : (Rtype.elem? 67).run Tryz.prog w = .ok (some 65) w := by kernel_rfl
theorem mkF (p : Addr) (w : World) : (ReflectliteValue.mk 65 p ReflectliteValue.flagAddr).run Tryz.prog w = .ok (.agg #[hd 65, .pointer (some p), .int .u64 406]) w := by kernel_rfl
theorem elemVPF (a p : Addr) (W : World) (ha : W.cell? a = some (.pointer (some p))) :
    (ReflectliteValue.method (ReflectliteValue.valueError "reflectlite.Value.Elem" 0) ReflectliteValue.elem #[.agg #[hd 67, .pointer (some a), .int .u64 150]]).run Tryz.prog W
      = .ok (.agg #[hd 65, .pointer (some p), .int .u64 406]) W := by
  rw [rlm]
  simp only [Sem.run_bind, partsPF, Result.andThen]
  simp [ReflectliteValue.elem, loadVar, isAgg, underlying, Tryz.underlying67, ha, Result.andThen, elemOfPF, mkF]
theorem rls (v x : Value) : ReflectliteValue.set #[v, x] = (do
    let (some (dst, a, fl), some (src, b, _)) := (← ReflectliteValue.parts v, ← ReflectliteValue.parts x)
      | unsupported (.noEntry "extern/(internal/reflectlite.Value).Set.zeroValue")
    if fl / ReflectliteValue.flagAddr % 2 == 0 then unsupported (.noEntry "extern/(internal/reflectlite.Value).Set.unaddressable")
    let val ← loadVar src b
    if ← Rtype.directlyAssignable dst src then storeVar dst a val
    else if ← Rtype.implements dst src then
      if (← Rtype.kind src) == 20 then
        match val with
        | .nilIface => unsupported (.noEntry "extern/reflectlite: a nil value of one interface type handed on as a value of another")
        | _ => storeVar dst a val
      else storeVar dst a (.iface src val)
    else panicString ("reflectlite.Set: value of type " ++ (← Rtype.spelt src) ++ " is not assignable to type " ++ (← Rtype.spelt dst))
    pure (.tuple #[])) := rfl
theorem partsFa (a : Addr) (w : World) : (ReflectliteValue.parts (.agg #[hd 65, .pointer (some a), .int .u64 406])).run Tryz.prog w = .ok (some (65, a, 406)) w := by kernel_rfl
theorem partsF (a : Addr) (w : World) : (ReflectliteValue.parts (.agg #[hd 65, .pointer (some a), .int .u64 150])).run Tryz.prog w = .ok (some (65, a, 150)) w := by kernel_rfl
theorem directF (w : World) : (Rtype.directlyAssignable 65 65).run Tryz.prog w = .ok true w := by kernel_rfl
theorem setF (ta b e : Addr) (old : Value) (W : World) (hb : W.cell? b = some (.pointer (some e))) (ht : W.cell? ta = some old) (hf : W.frozen? ta = false) :
    (ReflectliteValue.set #[.agg #[hd 65, .pointer (some ta), .int .u64 406], .agg #[hd 65, .pointer (some b), .int .u64 150]]).run Tryz.prog W
      = .ok (.tuple #[]) (W.setCell ta (.pointer (some e))) := by
  rw [rls]
  simp only [Sem.run_bind, partsFa, partsF, Result.andThen]
  simp [ReflectliteValue.flagAddr, loadVar, isAgg, underlying, Tryz.underlying65, hb, Result.andThen, directF, storeVar, Value.cells, storeCells, Addr.add]
  rw [run_store Tryz.prog W ta _ _ (by rfl)]
  simp [ht, hf]
abbrev valF (w : World) : Array Value := #[hd 67, .pointer (some ⟨w.heap.size, 0, none⟩), .int .u64 150]
set_option maxHeartbeats 4000000 in
theorem as_hit (e t : Addr) (old : Value) (w : World) (hg : w.cell? ⟨5, 0, none⟩ = some (.iface 152 (.agg #[hd 41]))) (ht0 : w.cell? t = some old) (hf0 : w.frozen? t = false) :
    Calls Tryz.prog 25 #[.iface 65 (.pointer (some e)), .iface 67 (.pointer (some t))] w fun ev w' => ev = .returned (.bool true) ∧ w' = ((((w.alloc (.cells #[.pointer (some t)] 67)).alloc (.cells (valF w) 115)).alloc (.cells (valF w) 115)).alloc (.cells #[.pointer (some e)] 65)).setCell t (.pointer (some e)) := by
  have h6 := @run_callFunc_extern Tryz.prog 62 _ (fun args => ReflectliteValue.unpack (args.getD 0 (.tuple #[]))) Tryz.func62 (by kernel_rfl) (by kernel_rfl) (by kernel_rfl) (by kernel_rfl)
  have h7 := @run_callFunc_extern Tryz.prog 63 _ (ReflectliteValue.methodAny (ReflectliteValue.valueError "reflectlite.Value.Type" 0) (fun t _ _ _ => ReflectliteType.toType t)) Tryz.func63 (by kernel_rfl) (by kernel_rfl) (by kernel_rfl) (by kernel_rfl)
  have h8 := @run_callFunc_extern Tryz.prog 64 _ (ReflectliteValue.method (ReflectliteValue.valueError "reflectlite.Value.IsNil" 0) ReflectliteValue.isNil) Tryz.func64 (by kernel_rfl) (by kernel_rfl) (by kernel_rfl) (by kernel_rfl)
  have h27 := @run_callFunc_extern Tryz.prog 158 _ (ReflectliteType.abiMethod fun t => do pure (.int .u8 (← Rtype.kind t))) Tryz.func158 (by kernel_rfl) (by kernel_rfl) (by kernel_rfl) (by kernel_rfl)
  have h37 := @run_callFunc_extern Tryz.prog 168 _ (ReflectliteType.method ReflectliteType.elem) Tryz.func168 (by kernel_rfl) (by kernel_rfl) (by kernel_rfl) (by kernel_rfl)
  have h38 := @run_callFunc_extern Tryz.prog 169 _ (ReflectliteType.relation "Implements" ReflectliteType.implements_) Tryz.func169 (by kernel_rfl) (by kernel_rfl) (by kernel_rfl) (by kernel_rfl)
  have h10 := @run_callFunc_extern Tryz.prog 66 _ ReflectliteType.typeOf Tryz.func66 (by kernel_rfl) (by kernel_rfl) (by kernel_rfl) (by kernel_rfl)
  have h35 := @run_callFunc_extern Tryz.prog 166 _ (ReflectliteType.relation "AssignableTo" ReflectliteType.assignableTo) Tryz.func166 (by kernel_rfl) (by kernel_rfl) (by kernel_rfl) (by kernel_rfl)
  have h11 := @run_callFunc_extern Tryz.prog 83 _ (ReflectliteValue.method (ReflectliteValue.valueError "reflectlite.Value.Elem" 0) ReflectliteValue.elem) Tryz.func83 (by kernel_rfl) (by kernel_rfl) (by kernel_rfl) (by kernel_rfl)
  have h12 := @run_callFunc_extern Tryz.prog 84 _ ReflectliteValue.set Tryz.func84 (by kernel_rfl) (by kernel_rfl) (by kernel_rfl) (by kernel_rfl)
  have tO := typeOfF
  have mA := methodAssignableTo
  have a25 := assignableF
  have v25 := valueOfF
  have f6 := valueOfPF
  have f7 := typePF
  have mK := methodKind
  have mE := methodElem
  have mI := methodImplements
  have k27 := kindPF
  have k25 := kindF
  have e27 := elemPF
  have i25 := implementsF
  have hlt : 5 < w.heap.size := World.block_lt_of_cell? w _ hg
  have n8 := isNilPF ⟨w.heap.size, 0, none⟩ t ((w.alloc (.cells #[.pointer (some t)] 67)).alloc (.cells (valF w) 115)) (by simp)
  have hg2 : ((w.alloc (.cells #[.pointer (some t)] 67)).alloc (.cells (valF w) 115)).cell? ⟨5, 0, none⟩ = some (.iface 152 (.agg #[hd 41])) := by
    rw [World.cell?_alloc_lt _ _ ⟨5, 0, none⟩ (by simp; omega), World.cell?_alloc_lt _ _ ⟨5, 0, none⟩ hlt]; exact hg
  have htl : t.block < w.heap.size := World.block_lt_of_cell? w _ ht0
  have el := elemVPF ⟨w.heap.size, 0, none⟩ t (((w.alloc (.cells #[.pointer (some t)] 67)).alloc (.cells (valF w) 115)).alloc (.cells (valF w) 115)) (by rw [World.cell?_alloc_lt _ _ ⟨w.heap.size, 0, none⟩ (by simp; omega)]; simp)
  have st := setF t ⟨w.heap.size + 1 + 1 + 1, 0, none⟩ e old ((((w.alloc (.cells #[.pointer (some t)] 67)).alloc (.cells (valF w) 115)).alloc (.cells (valF w) 115)).alloc (.cells #[.pointer (some e)] 65))
    (by rw [World.cell?_alloc_at _ _ _ _ (by simp)]; rfl)
    (by rw [World.cell?_alloc_lt _ _ t (by simp; omega), World.cell?_alloc_lt _ _ t (by simp; omega), World.cell?_alloc_lt _ _ t (by simp; omega), World.cell?_alloc_lt _ _ t htl]; exact ht0)
    (by rw [World.frozen?_alloc_old _ _ t (by simp; omega), World.frozen?_alloc_old _ _ t (by simp; omega), World.frozen?_alloc_old _ _ t (by simp; omega), World.frozen?_alloc_old _ _ t (Nat.ne_of_lt htl)]; exact hf0)
  go_enter Tryz.func25, Tryz.ntmps25
  go_wp2
  refine wp_loop_rounds 1 ?_
  rw [rounds_succ]
  go_wp2
  go_ret
  exact ⟨rfl, rfl⟩
end Go.Proofs.YtappphffbnkloaaGreatDoor.Sht
set_option linter.unusedVariables false
set_option linter.unusedSimpArgs false
namespace Go.Proofs.YtappphffbnkloaaGreatDoor.Sht
open Go Go.RowKit
/-- the variable of any of the twenty codes -/
def gl20 (c : Nat) : Nat :=
  if c = 1 then 2 else if c = 2 then 6 else if c = 3 then 1 else if c = 4 then 7 else if c = 5 then 8 else if c = 6 then 9 else if c = 7 then 10 else if c = 8 then 3 else if c = 9 then 4 else if c = 10 then 11 else if c = 11 then 12 else if c = 12 then 13 else if c = 13 then 14 else if c = 14 then 15 else if c = 15 then 16 else if c = 16 then 17 else if c = 17 then 18 else if c = 18 then 19 else if c = 19 then 20 else 0
structure SG (W : World) (A : Nat → Addr) : Prop where
  hv : ∀ c, 1 ≤ c → c ≤ 20 → W.cell? ⟨gl20 c, 0, none⟩ = some (errV A c)
  hn : ∀ c c', 1 ≤ c → c ≤ 20 → 1 ≤ c' → c' ≤ 20 → c ≠ c' → A c ≠ A c'
  hb : ∀ c, 1 ≤ c → c ≤ 20 → ∃ cs t, W.heap[(A c).block]? = some (.cells cs t (0, 0))
  ht : ∀ c, 1 ≤ c → c ≤ 20 → ∃ s : ByteArray, W.cell? (A c) = some (.string s) ∧ s.size < 1000
theorem SG.below {W W' : World} {A : Nat → Addr} (h : SG W A) (k : Below W.heap.size W W') : SG W' A :=
  ⟨fun c h1 h2 => (k.cell (p := ⟨gl20 c, 0, none⟩) (World.block_lt_of_cell? W _ (h.hv c h1 h2))).trans (h.hv c h1 h2), h.hn, fun c h1 h2 => by
    obtain ⟨cs, t, hb⟩ := h.hb c h1 h2
    exact ⟨cs, t, (k.block _ (blt hb)).trans hb⟩, fun c h1 h2 => by
    obtain ⟨s, hs, hz⟩ := h.ht c h1 h2
    exact ⟨s, (k.cell (World.block_lt_of_cell? W _ hs)).trans hs, hz⟩⟩
theorem SG.sf {W : World} {A : Nat → Addr} (h : SG W A) : SF W A := by
  have one : ∀ c, coded c → 1 ≤ c ∧ c ≤ 20 := fun c hc => by unfold coded at hc; omega
  refine ⟨fun c hc => ?_, fun c c' hc hc' => h.hn c c' (one c hc).1 (one c hc).2 (one c' hc').1 (one c' hc').2, fun c hc => h.hb c (one c hc).1 (one c hc).2⟩
  have e : gl c = gl20 c := by
    unfold coded at hc
    rcases (show c = 1 ∨ c = 2 ∨ c = 3 ∨ c = 4 ∨ c = 5 ∨ c = 6 ∨ c = 7 ∨ c = 8 ∨ c = 9 ∨ c = 20 by omega) with rfl | rfl | rfl | rfl | rfl | rfl | rfl | rfl | rfl | rfl <;> rfl
  rw [e]
  exact h.hv c (one c hc).1 (one c hc).2
set_option maxHeartbeats 8000000 in
set_option maxRecDepth 100000 in
theorem variable_r (c : Nat) (h1 : 1 ≤ c) (h2 : c ≤ 20) (A : Nat → Addr) (w : World) (hS : SG w A) : Calls Tryz.prog 32 #[.int .i64 (c : Int)] w fun e w' => e = .returned (errV A c) ∧ Below w.heap.size w w' := by
  have e1 : w.cell? ⟨2, 0, none⟩ = some (errV A 1) := hS.hv 1 (by omega) (by omega)
  have e2 : w.cell? ⟨6, 0, none⟩ = some (errV A 2) := hS.hv 2 (by omega) (by omega)
  have e3 : w.cell? ⟨1, 0, none⟩ = some (errV A 3) := hS.hv 3 (by omega) (by omega)
  have e4 : w.cell? ⟨7, 0, none⟩ = some (errV A 4) := hS.hv 4 (by omega) (by omega)
  have e5 : w.cell? ⟨8, 0, none⟩ = some (errV A 5) := hS.hv 5 (by omega) (by omega)
  have e6 : w.cell? ⟨9, 0, none⟩ = some (errV A 6) := hS.hv 6 (by omega) (by omega)
  have e7 : w.cell? ⟨10, 0, none⟩ = some (errV A 7) := hS.hv 7 (by omega) (by omega)
  have e8 : w.cell? ⟨3, 0, none⟩ = some (errV A 8) := hS.hv 8 (by omega) (by omega)
  have e9 : w.cell? ⟨4, 0, none⟩ = some (errV A 9) := hS.hv 9 (by omega) (by omega)
  have e10 : w.cell? ⟨11, 0, none⟩ = some (errV A 10) := hS.hv 10 (by omega) (by omega)
  have e11 : w.cell? ⟨12, 0, none⟩ = some (errV A 11) := hS.hv 11 (by omega) (by omega)
  have e12 : w.cell? ⟨13, 0, none⟩ = some (errV A 12) := hS.hv 12 (by omega) (by omega)
  have e13 : w.cell? ⟨14, 0, none⟩ = some (errV A 13) := hS.hv 13 (by omega) (by omega)
  have e14 : w.cell? ⟨15, 0, none⟩ = some (errV A 14) := hS.hv 14 (by omega) (by omega)
  have e15 : w.cell? ⟨16, 0, none⟩ = some (errV A 15) := hS.hv 15 (by omega) (by omega)
  have e16 : w.cell? ⟨17, 0, none⟩ = some (errV A 16) := hS.hv 16 (by omega) (by omega)
  have e17 : w.cell? ⟨18, 0, none⟩ = some (errV A 17) := hS.hv 17 (by omega) (by omega)
  have e18 : w.cell? ⟨19, 0, none⟩ = some (errV A 18) := hS.hv 18 (by omega) (by omega)
  have e19 : w.cell? ⟨20, 0, none⟩ = some (errV A 19) := hS.hv 19 (by omega) (by omega)
  have e20 : w.cell? ⟨0, 0, none⟩ = some (errV A 20) := hS.hv 20 (by omega) (by omega)
  clear hS
  have hc : c = 1 ∨ c = 2 ∨ c = 3 ∨ c = 4 ∨ c = 5 ∨ c = 6 ∨ c = 7 ∨ c = 8 ∨ c = 9 ∨ c = 10 ∨ c = 11 ∨ c = 12 ∨ c = 13 ∨ c = 14 ∨ c = 15 ∨ c = 16 ∨ c = 17 ∨ c = 18 ∨ c = 19 ∨ c = 20 := by omega
  clear h1 h2
  rcases hc with rfl | rfl | rfl | rfl | rfl | rfl | rfl | rfl | rfl | rfl | rfl | rfl | rfl | rfl | rfl | rfl | rfl | rfl | rfl | rfl
  all_goals
    go_enter Tryz.func32, Tryz.ntmps32
    go_wp2
    go_ret
    exact ⟨rfl, (Below.refl _ _).alloc (Nat.le_refl _) _⟩
/-- same at two errors of sheet that are one -/
theorem same_r (a : Addr) (w : World) : Calls Tryz.prog 40 #[.iface 215 (.pointer (some a)), .iface 215 (.pointer (some a))] w fun e w' => e = .returned (.bool true) ∧ w = w' := by
  obtain ⟨i, hi, hcmp⟩ := Option.map_eq_some_iff.1 isComp
  obtain ⟨j, hj, hjs⟩ := Option.map_eq_some_iff.1 isSize
  have heq := run_eql_iface_ptr_same (P := Tryz.prog) w a Tryz.underlying41 Tryz.underlying215 hi hcmp hj
  go_enter Tryz.func40, Tryz.ntmps40
  go_wp2
  go_ret
  exact ⟨rfl, rfl⟩
theorem unwrap_r (g : Nat) (x y : Value) (a : Addr) (w : World) (hg : w.heap[g]? = some (.cells #[x, y, .iface 215 (.pointer (some a))] 70 (0, 0))) :
    Calls Tryz.prog 29 #[PT g] w fun e w' => e = .returned (.iface 215 (.pointer (some a))) ∧ w = w' := by
  have c2 : w.cell? ⟨g, 2, none⟩ = some (.iface 215 (.pointer (some a))) := (bcell hg 2).trans rfl
  go_enter Tryz.func29, Tryz.ntmps29
  go_wp2
  go_ret
  exact ⟨rfl, rfl⟩
theorem es_error (a : Addr) (s : ByteArray) (w : World) (h : w.cell? a = some (.string s)) : Calls Tryz.prog 176 #[.pointer (some a)] w fun e w' => e = .returned (.string s) ∧ w = w' := by
  obtain ⟨b, o, f⟩ := a
  go_enter Tryz.func176, Tryz.ntmps176
  go_wp2
  go_ret
  exact ⟨rfl, rfl⟩
theorem is_code (A : Nat → Addr) (g e c : Nat) (x y : Value) (w : World) (hS : SG w A) (h1 : 1 ≤ e) (h2 : e ≤ 20) (h3 : 1 ≤ c) (h4 : c ≤ 20) (hg : w.heap[g]? = some (.cells #[x, y, errV A e] 70 (0, 0))) :
    Calls Tryz.prog 27 #[.iface 65 (PT g), errV A c] w fun ev w' => ev = .returned (.bool (decide (e = c))) ∧ w = w' := by
  by_cases h : e = c
  · subst h
    rw [decide_eq_true rfl]
    exact is_fault_yes g (A e) x y w hg
  · rw [decide_eq_false h]
    obtain ⟨ca, ta, ha⟩ := hS.hb e h1 h2
    obtain ⟨cb, tb, hb⟩ := hS.hb c h3 h4
    exact is_fault_no g (A e) (A c) x y ca cb ta tb w hg (hS.hn e c h1 h2 h3 h4 h) ha hb
/-- one of the variables, and no other -/
theorem kinds_r (A : Nat → Addr) (g e : Nat) (x y : Value) (w : World) (hS : SG w A) (h1 : 1 ≤ e) (h2 : e ≤ 20) (hg : w.heap[g]? = some (.cells #[x, y, errV A e] 70 (0, 0))) :
    Calls Tryz.prog 33 #[.iface 65 (PT g)] w fun ev w' => ev = .returned (.int .i64 1) ∧ Below w.heap.size w w' := by
  have HS := Lib.hid hS
  have HG := Lib.hid hg
  clear hS hg
  go_enter Tryz.func33, Tryz.ntmps33
  go_wp2
  go_loopw [3, 4] (fun n c wr => ∃ k : Nat, 1 ≤ k ∧ k ≤ 21 ∧ c = .int .i64 (k : Int) ∧ n = .int .i64 (if e < k then 1 else 0) ∧ Hid (Below w.heap.size w wr)) (fun _ c _ => (21 - intOf c).toNat)
  case atStart => exact ⟨1, by omega, by omega, rfl, by rw [if_neg (by omega)], Lib.hid (Below.refl _ _)⟩
  case round =>
    obtain ⟨k, k1, k2, rfl, rfl, HB⟩ := hrel
    by_cases hk : k ≤ 20
    · have HSr := Lib.hid (HS.out.below HB.out)
      have HV := Lib.hid (variable_r k k1 hk A wr HSr.out)
      have HI := Lib.hid (fun w1 (hb : Below wr.heap.size wr w1) => is_code A g e k x y w1 (HSr.out.below hb) h1 h2 k1 hk ((hb.block g (Nat.lt_of_lt_of_le (blt HG.out) HB.out.size)).trans ((HB.out.block g (blt HG.out)).trans HG.out)))
      by_cases he : e = k
      · rw [decide_eq_true he] at HI
        have HE := Lib.hid he
        clear he
        go_wp2_with (first
          | (go_at_call 32; (with_reducible refine HV.out.mono ?_); rintro ev w1 ⟨rfl, hb1⟩; have HB1 := Lib.hid hb1; clear hb1)
          | (go_at_call 27; (with_reducible refine (HI.out _ HB1.out).mono ?_); rintro ev w2 ⟨rfl, rfl⟩))
        go_roundw
        case rel => exact ⟨k + 1, by omega, by omega, by go_num, by rw [if_neg (show ¬ e < k by have := HE.out; omega), if_pos (show e < k + 1 by have := HE.out; omega)]; rfl, Lib.hid (HB.out.trans (HB1.out.mono HB.out.size))⟩
        case measure => simp [intOf]; omega
      · rw [decide_eq_false he] at HI
        have HE := Lib.hid he
        clear he
        go_wp2_with (first
          | (go_at_call 32; (with_reducible refine HV.out.mono ?_); rintro ev w1 ⟨rfl, hb1⟩; have HB1 := Lib.hid hb1; clear hb1)
          | (go_at_call 27; (with_reducible refine (HI.out _ HB1.out).mono ?_); rintro ev w2 ⟨rfl, rfl⟩))
        go_roundw
        case rel => exact ⟨k + 1, by omega, by omega, by go_num, by by_cases q : e < k; rw [if_pos q, if_pos (show e < k + 1 by omega)]; rw [if_neg q, if_neg (show ¬ e < k + 1 by have := HE.out; omega)], Lib.hid (HB.out.trans (HB1.out.mono HB.out.size))⟩
        case measure => simp [intOf]; omega
    · have hk' : e < k := by omega
      rw [if_pos hk']
      clear hk'
      go_wp2
      go_ret
      exact ⟨rfl, HB.out⟩
end Go.Proofs.YtappphffbnkloaaGreatDoor.Sht
set_option linter.unusedVariables false
set_option linter.unusedSimpArgs false
namespace Go.Proofs.YtappphffbnkloaaGreatDoor.Sht
open Go Go.RowKit
attribute [local go_sem ↓] Go.wp_at_zero Go.wp_at_succ
/-- strconv.Itoa, as long as nothing below a world turns: a text for each number -/
structure IT (W : World) (T : Nat → ByteArray) (N : Nat := 4611686018427387904) : Prop where
  run : ∀ w', Below W.heap.size W w' → ∀ n : Nat, n ≤ N → Calls Tryz.prog 68 #[.int .i64 (n : Int)] w' fun e w'' => e = .returned (.string (T n)) ∧ Below w'.heap.size w' w''
  size : ∀ n : Nat, n ≤ N → (T n).size ≤ 100
theorem IT.below {W W' : World} {T : Nat → ByteArray} {N : Nat} (h : IT W T N) (k : Below W.heap.size W W') : IT W' T N := ⟨fun w' hb n hn => h.run w' (k.trans (hb.mono k.size)) n hn, h.size⟩
theorem methodError (v : Value) (w : World) : (Go.method 345 215 v "Error").run Tryz.prog w = .ok (176, v) w := by kernel_rfl
abbrev ftext (T : Nat → ByteArray) (x y : Nat) (s : ByteArray) : ByteArray := ⟨#[108, 105, 110, 101, 32]⟩ ++ T x ++ ⟨#[32, 99, 111, 108, 117, 109, 110, 32]⟩ ++ T y ++ ⟨#[58, 32]⟩ ++ s
set_option maxHeartbeats 4000000 in
set_option maxRecDepth 100000 in
theorem fault_error (T : Nat → ByteArray) (g x y : Nat) (a : Addr) (s : ByteArray) (w : World) {N : Nat} (hI : IT w T N) (hx : x ≤ N) (hy : y ≤ N) (hg : w.heap[g]? = some (.cells #[I x, I y, .iface 215 (.pointer (some a))] 70 (0, 0))) (hs : w.cell? a = some (.string s)) (hz : s.size < 1000) :
    Calls Tryz.prog 28 #[PT g] w fun e w' => e = .returned (.string (ftext T x y s)) ∧ Below w.heap.size w w' := by
  have c0 : w.cell? ⟨g, 0, none⟩ = some (I x) := (bcell hg 0).trans rfl
  have c1 : w.cell? ⟨g, 1, none⟩ = some (I y) := (bcell hg 1).trans rfl
  have hm := methodError
  have zx := hI.size x hx
  have zy := hI.size y hy
  have HG := Lib.hid hg
  have HS := Lib.hid hs
  have HX := Lib.hid (fun w' hb => hI.run w' hb x hx)
  have HY := Lib.hid (fun w' hb => hI.run w' hb y hy)
  have gl := blt hg
  have q1 : ¬ 9223372036854775807 < 5 + (T x).size := by omega
  have q2 : ¬ 9223372036854775807 < 5 + (T x).size + 8 := by omega
  have q3 : ¬ 9223372036854775807 < 5 + (T x).size + 8 + (T y).size := by omega
  have q4 : ¬ 9223372036854775807 < 5 + (T x).size + 8 + (T y).size + 2 := by omega
  have q5 : ¬ 9223372036854775807 < 5 + (T x).size + 8 + (T y).size + 2 + s.size := by omega
  clear hg hs hI
  go_enter Tryz.func28, Tryz.ntmps28
  go_wp2
  go_region_held3 (fun w' => w'.cell? ⟨g, 0, none⟩ = some (I x) ∧ w'.cell? ⟨g, 1, none⟩ = some (I y))
    (first | go_keep | (exact ⟨(hb1.cell (p := ⟨g, 0, none⟩) gl).trans c0, (hb1.cell (p := ⟨g, 1, none⟩) gl).trans c1⟩) | (exact ⟨(hb2.cell (p := ⟨g, 0, none⟩) gl).trans c0, (hb2.cell (p := ⟨g, 1, none⟩) gl).trans c1⟩))
    (first
      | (go_at_call 68; (with_reducible refine (HX.out _ ((Below.refl _ _).drew)).mono ?_); rintro e w1 ⟨rfl, hb1'⟩; have hb1 : Below w.heap.size w w1 := (Below.refl _ w).drew.trans hb1')
      | (go_at_call 68; (with_reducible refine (HY.out _ hb1).mono ?_); rintro e w2 ⟨rfl, hb2'⟩; have hb2 : Below w.heap.size w w2 := hb1.trans (hb2'.mono hb1.size)))
  all_goals
    have HB := Lib.hid hb2
    have d2 : w2.cell? ⟨g, 2, none⟩ = some (.iface 215 (.pointer (some a))) := (HB.out.cell (p := ⟨g, 2, none⟩) gl).trans ((bcell HG.out 2).trans rfl)
    have HE := Lib.hid (es_error a s w2 ((HB.out.cell (World.block_lt_of_cell? w _ HS.out)).trans HS.out))
    clear hb1 hb2 hb1' hb2' c0 c1
    go_wp2_with (go_at_call 176; (with_reducible refine HE.out.mono ?_); rintro e w3 ⟨rfl, rfl⟩)
    go_ret
    exact ⟨rfl, HB.out⟩
end Go.Proofs.YtappphffbnkloaaGreatDoor.Sht
set_option linter.unusedVariables false
set_option linter.unusedSimpArgs false
namespace Go.Proofs.YtappphffbnkloaaGreatDoor.Sht
open Go Go.RowKit Go.Joins
attribute [local go_sem ↓] Go.wp_at_zero Go.wp_at_succ
variable {A : Nat → Addr} {W0 W : World} {b : Nat} {s : RS}
theorem rowsAt_snoc {W : World} {B : Nat} {v : Value} {r : List (List UInt8)} (h : W.ownsRow B 9 1 v r.length (sts r)) : ∀ {lv : List Value} {rs : List (List (List UInt8))}, RowsAt W B lv rs → RowsAt W B (lv ++ [v]) (rs ++ [r])
  | [], [], _ => ⟨h, trivial⟩
  | _ :: lv, _ :: rs, q => ⟨q.1, rowsAt_snoc h q.2⟩
  | [], _ :: _, q => q.elim
  | _ :: _, [], q => q.elim
/-- the row goes to the rows -/
theorem RD.appRows {vc vr vl fl : Value} {lv : List Value} {w1 : World} {g cap : Nat} (h : RD A W0 W b s vc vr vl fl lv) (hg : W.grownBy w1 vl.ownBlock) (hat : vl.ownBlock = some g ∨ g = W.heap.size)
    (hown : w1.ownsRow W0.heap.size 28 1 (.slice (some ⟨g, 0, none⟩) (s.rows.length + 1) cap) (s.rows.length + 1) (lv ++ [vr])) :
    RD A W0 ((w1.setCell ⟨b, 9, none⟩ (.slice (some ⟨g, 0, none⟩) (s.rows.length + 1) cap)).setCell ⟨b, 8, none⟩ (.slice none 0 0)) b { s with rows := s.rows ++ [s.row], row := [] } vc (.slice none 0 0) (.slice (some ⟨g, 0, none⟩) (s.rows.length + 1) cap) fl (lv ++ [vr]) := by
  have hd := h.dis
  have hlt := h.all_lt
  have hd' := hd
  simp only [List.nodup_cons, List.nodup_append, List.mem_append] at hd'
  obtain ⟨nb, _, ⟨_, ⟨_, _, nl⟩, nr⟩, nc⟩ := hd'
  have hb := h.lt
  have keep : ∀ j, j < W.heap.size → j ≠ b → vl.ownBlock ≠ some j → ((w1.setCell ⟨b, 9, none⟩ (.slice (some ⟨g, 0, none⟩) (s.rows.length + 1) cap)).setCell ⟨b, 8, none⟩ (.slice none 0 0)).heap[j]? = W.heap[j]? := fun j hj hn hv =>
    (Below.heap_setCell _ ⟨b, 8, none⟩ _ j hn).trans ((Below.heap_setCell w1 ⟨b, 9, none⟩ _ j hn).trans (hg.block j hj (fun e => hv e.symm)))
  have kp : ∀ j, (j ∈ fb fl ∨ j ∈ lv.flatMap ob) → ((w1.setCell ⟨b, 9, none⟩ (.slice (some ⟨g, 0, none⟩) (s.rows.length + 1) cap)).setCell ⟨b, 8, none⟩ (.slice none 0 0)).heap[j]? = W.heap[j]? := fun j hj =>
    keep j (hlt j (by simp only [List.mem_cons, List.mem_append]; exact .inr (.inr (.inr (.inr hj))))) (fun e => nb (e ▸ .inr (.inr (.inr hj)))) (fun e => nl j (mem_ob.2 e) j hj rfl)
  have kc : ∀ j, j ∈ ob vc → ((w1.setCell ⟨b, 9, none⟩ (.slice (some ⟨g, 0, none⟩) (s.rows.length + 1) cap)).setCell ⟨b, 8, none⟩ (.slice none 0 0)).heap[j]? = W.heap[j]? := fun j hj =>
    keep j (hlt j (by simp only [List.mem_cons, List.mem_append]; exact .inr (.inl hj))) (fun e => nb (e ▸ .inl hj)) (fun e => nc j hj j (.inr (.inl (mem_ob.2 e))) rfl)
  have kr : ∀ j, j ∈ ob vr → ((w1.setCell ⟨b, 9, none⟩ (.slice (some ⟨g, 0, none⟩) (s.rows.length + 1) cap)).setCell ⟨b, 8, none⟩ (.slice none 0 0)).heap[j]? = W.heap[j]? := fun j hj =>
    keep j (hlt j (by simp only [List.mem_cons, List.mem_append]; exact .inr (.inr (.inl hj)))) (fun e => nb (e ▸ .inr (.inl hj))) (fun e => nr j hj j (.inl (mem_ob.2 e)) rfl)
  have hbc : vl.ownBlock ≠ some b := h.ne_l
  have hblk : w1.heap[b]? = W.heap[b]? := hg.block b hb (fun e => hbc e.symm)
  have hgb : g ≠ b := by
    rcases hat with e | e
    · rintro rfl; exact hbc e
    · omega
  refine ⟨((h.below.trans ⟨hg.os, hg.tape, hg.output, hg.size, fun k hk => hg.block k (Nat.lt_of_lt_of_le hk h.below.size) (fun e => by have := (h.hl.lt k e.symm).1; omega)⟩).setCell h.hb _).setCell h.hb _, h.hb, (bset (bset (hblk.trans h.blk) 9 _) 8 _).trans rfl, ownsRow_kept h.hc fun j hj => kc j (mem_ob.2 hj), World.ownsRow_nil _ _ _ _,
    ?_, rowsAt_snoc (ownsRow_kept h.hr fun j hj => kr j (mem_ob.2 hj)) (rowsAt_kept h.rws fun j hj => kp j (.inr hj)), faultAt_kept h.flt fun j hj => kp j (.inl hj), ?_⟩
  · have := ownsRow_kept hown (W' := (w1.setCell ⟨b, 9, none⟩ (.slice (some ⟨g, 0, none⟩) (s.rows.length + 1) cap)).setCell ⟨b, 8, none⟩ (.slice none 0 0)) (fun j hj => (Below.heap_setCell _ ⟨b, 8, none⟩ _ j (show j ≠ b by simp only [Value.ownBlock, Option.some.injEq] at hj; omega)).trans (Below.heap_setCell w1 ⟨b, 9, none⟩ _ j (show j ≠ b by simp only [Value.ownBlock, Option.some.injEq] at hj; omega)))
    simpa using this
  · have hy : (Value.slice (some ⟨g, 0, none⟩) (s.rows.length + 1) cap).ownBlock = vl.ownBlock ∨ (Value.slice (some ⟨g, 0, none⟩) (s.rows.length + 1) cap).ownBlock = some W.heap.size := by
      rcases hat with e | e
      · exact .inl e.symm
      · exact .inr (by rw [e]; rfl)
    have := nd_new (p := b :: (ob vc ++ ob vr)) (q := fb fl ++ lv.flatMap ob) (x := vl.ownBlock) (by simpa [ob, List.append_assoc] using hd) hy (fun j hj => hlt j (by simp only [List.mem_cons, List.mem_append] at hj ⊢; rcases hj with (hj | hj | hj) | hj | hj <;> simp [hj]))
    have hp : (b :: (ob vc ++ ob vr) ++ (Value.ownBlock (.slice (some ⟨g, 0, none⟩) (s.rows.length + 1) cap)).toList ++ (fb fl ++ lv.flatMap ob)).Perm (b :: (ob vc ++ (ob (.slice none 0 0) ++ (ob (.slice (some ⟨g, 0, none⟩) (s.rows.length + 1) cap) ++ (fb fl ++ (lv ++ [vr]).flatMap ob))))) := by
      have e1 : ob (.slice none 0 0) = [] := rfl
      have e2 : ob (.slice (some ⟨g, 0, none⟩) (s.rows.length + 1) cap) = [g] := rfl
      have e3 : (Value.ownBlock (.slice (some ⟨g, 0, none⟩) (s.rows.length + 1) cap)).toList = [g] := rfl
      rw [e1, e2, e3]
      simp only [List.flatMap_append, List.flatMap_cons, List.flatMap_nil, List.append_nil, List.nil_append, List.cons_append, List.append_assoc]
      refine List.Perm.cons _ (List.Perm.append_left _ ?_)
      have := List.perm_append_comm (l₁ := ob vr) (l₂ := [g] ++ (fb fl ++ lv.flatMap ob))
      simpa only [List.append_assoc, List.cons_append, List.nil_append] using this
    exact hp.nodup_iff.1 (by simpa [List.append_assoc] using this)
theorem RD.set_fr {vc vr vl fl vc' vr' vl' fl' : Value} {lv lv' : List Value} {s' : RS} {k : Nat} {u : Value} (h : RD A W0 W b s vc vr vl fl lv) (h' : RD A W0 (W.setCell ⟨b, k, none⟩ u) b s' vc' vr' vl' fl' lv') (e1 : vc'.ownBlock = vc.ownBlock) (e2 : vr'.ownBlock = vr.ownBlock) (e3 : vl'.ownBlock = vl.ownBlock)
    (ht : ∀ j, j ∈ lv'.flatMap ob → (j ∈ lv.flatMap ob ∨ vc.ownBlock = some j ∨ vr.ownBlock = some j ∨ vl.ownBlock = some j) ∨ W.heap.size ≤ j := by exact fun _ q => .inl (.inl q)) : Fr b W (W.setCell ⟨b, k, none⟩ u) :=
  h.fr h' rfl rfl rfl (by rw [setSize]; exact Nat.le_refl _) (fun j hj hn _ _ _ => Below.heap_setCell W ⟨b, k, none⟩ _ j hn) (fun j hj => by rw [e1, e2, e3] at hj; exact .inl hj) ht
theorem RD.widen {vc vr vl fl : Value} {lv : List Value} (h : RD A W0 W b s vc vr vl fl lv) (h0 : s.count = 0) : RD A W0 (W.setCell ⟨b, 11, none⟩ (I s.row.length)) b s.widen vc vr vl fl lv := by
  rw [RS.widen, if_pos h0]
  exact h.set 11 _ _ rfl rfl rfl rfl rfl
theorem RD.drewN {vc vr vl fl : Value} {lv : List Value} (h : RD A W0 W b s vc vr vl fl lv) (n : Nat) : RD A W0 (W.drewN n) b s vc vr vl fl lv := h.kept ⟨rfl, rfl, rfl, Nat.le_refl _, fun _ _ => rfl⟩ (fun _ _ => rfl)
theorem Fr.drewN {u v : World} (h : Fr b u v) (n : Nat) : Fr b u (v.drewN n) := ⟨h.os, h.tape, h.output, h.size, h.keep, h.own, h.told⟩
theorem fr_app2 {vc vr vl fl vc' vr' vl' fl' : Value} {lv lv' : List Value} {s' : RS} {w1 w2 : World} {o : Obj} {v : Value} {g k k' : Nat} {u u' : Value} (h : RD A W0 W b s vc vr vl fl lv) (h2 : RD A W0 w2 b s' vc' vr' vl' fl' lv') (e2 : w2 = (w1.setCell ⟨b, k, none⟩ u).setCell ⟨b, k', none⟩ u')
    (hg : (W.alloc o).grownBy w1 v.ownBlock) (hv : ∀ j, v.ownBlock = some j → vc.ownBlock = some j ∨ vr.ownBlock = some j ∨ vl.ownBlock = some j) (hat : v.ownBlock = some g ∨ g = (W.alloc o).heap.size)
    (ho : ∀ j, (vc'.ownBlock = some j ∨ vr'.ownBlock = some j ∨ vl'.ownBlock = some j) → (vc.ownBlock = some j ∨ vr.ownBlock = some j ∨ vl.ownBlock = some j) ∨ j = g)
    (ht : ∀ j, j ∈ lv'.flatMap ob → (j ∈ lv.flatMap ob ∨ vc.ownBlock = some j ∨ vr.ownBlock = some j ∨ vl.ownBlock = some j) ∨ W.heap.size ≤ j := by exact fun _ q => .inl (.inl q)) : Fr b W w2 := by
  subst e2
  refine h.fr h2 hg.os hg.tape hg.output (by rw [setSize, setSize]; exact Nat.le_trans (by simp) hg.size) (fun j hj hn q1 q2 q3 => ?_) (fun j hj => ?_) ht
  · exact (Below.heap_setCell _ ⟨b, k', none⟩ _ j hn).trans ((Below.heap_setCell w1 ⟨b, k, none⟩ _ j hn).trans ((hg.block j (by simp; omega) (fun e => by rcases hv j e.symm with h1 | h1 | h1; exact q1 h1; exact q2 h1; exact q3 h1)).trans (Below.heap_alloc W o j hj)))
  · rcases ho j hj with h1 | rfl
    · exact .inl h1
    · rcases hat with h1 | h1
      · exact .inl (hv _ h1)
      · refine .inr ?_
        rw [h1]; simp
theorem RS.widen_eq (s : RS) : s.widen.row = s.row ∧ s.widen.count = s.count ∧ s.widen.rows = s.rows := by
  unfold RS.widen
  split <;> exact ⟨rfl, rfl, rfl⟩
set_option maxHeartbeats 4000000 in
set_option maxRecDepth 100000 in
/-- behind the width -/
theorem endRow_r (hF : SF W0 A) (l c : Nat) {N : Nat} (hB : s.Bd N) (hN : N ≤ 1099511627776) (hne : 0 < s.row.length) (hR : R A W0 W b s) : Does A W0 W b (s.endRow l c) 103 #[PT b, .agg #[I l, I c]] := by
  obtain ⟨vc, vr, vl, fl, lv, h⟩ := hR
  obtain ⟨i0, hi, hz0, hz1, hz2⟩ := info_parts info28
  have h1 := h.alloc (.cells #[I l, I c] 79)
  obtain ⟨_, _, _, _, _, _, _, _, c8, _, c10, c11, _⟩ := h.cells
  obtain ⟨_, _, _, _, _, _, _, _, _, _, _, f11, _⟩ := h.free
  have hlt := h.lt
  have HH := Lib.hid h
  have HB := Lib.hid hB
  obtain ⟨gr, cr, rfl, _⟩ := h.hr.form hne
  clear h hB
  by_cases h0 : s.count = 0
  have hc0 : ((s.count : Int) == 0) = true := by simp [h0]
  have H0 := Lib.hid h0
  clear h0
  go_enter Tryz.func103, Tryz.ntmps103
  go_wp2
  have h2 := (HH.out.widen H0.out).alloc (.cells #[I l, I c] 79)
  have hf2 : Fr b W ((W.setCell ⟨b, 11, none⟩ (I s.row.length)).alloc (.cells #[I l, I c] 79)) := HH.out.fr h2 rfl rfl rfl (by simp [setSize]) (fun j hj hn _ _ _ => (Below.heap_alloc _ _ j (by rw [setSize]; exact hj)).trans (Below.heap_setCell W ⟨b, 11, none⟩ _ j hn)) (fun j hj => .inl hj)
  have hx2 : ((W.setCell ⟨b, 11, none⟩ (I s.row.length)).alloc (.cells #[I l, I c] 79)).heap[W.heap.size]? = some (.cells #[I l, I c] 79 (0, 0)) := by
    have := heap_alloc_new (W.setCell ⟨b, 11, none⟩ (I s.row.length)) (.cells #[I l, I c] 79)
    rw [setSize] at this
    exact this
  obtain ⟨w2, hw2⟩ : ∃ w2, w2 = (W.setCell ⟨b, 11, none⟩ (I s.row.length)).alloc (.cells #[I l, I c] 79) := ⟨_, rfl⟩
  rw [← hw2]
  have H2 := Lib.hid (hw2 ▸ h2)
  have HF := Lib.hid (hw2 ▸ hf2)
  have HX := Lib.hid (hw2 ▸ hx2)
  clear hw2 h2 hf2 hx2
  rotate_left
  have hc0 : ((s.count : Int) == 0) = false := by simp; omega
  have H0 := Lib.hid h0
  clear h0
  go_enter Tryz.func103, Tryz.ntmps103
  go_wp2
  have h2 : RD A W0 (W.alloc (.cells #[I l, I c] 79)) b s.widen vc (.slice (some ⟨gr, 0, none⟩) s.row.length cr) vl fl lv := by rw [RS.widen, if_neg H0.out]; exact h1
  have hf2 : Fr b W (W.alloc (.cells #[I l, I c] 79)) := HH.out.fr h1 rfl rfl rfl (by simp) (fun j hj hn _ _ _ => Below.heap_alloc _ _ j hj) (fun j hj => .inl hj)
  have hx2 := heap_alloc_new W (.cells #[I l, I c] 79)
  obtain ⟨w2, hw2⟩ : ∃ w2, w2 = W.alloc (.cells #[I l, I c] 79) := ⟨_, rfl⟩
  rw [← hw2]
  have H2 := Lib.hid (hw2 ▸ h2)
  have HF := Lib.hid (hw2 ▸ hf2)
  have HX := Lib.hid (hw2 ▸ hx2)
  clear hw2 h2 hf2 hx2
  all_goals
    obtain ⟨e1, e2, e3⟩ := s.widen_eq
    obtain ⟨_, _, _, _, _, _, _, _, c8, c9, c10, c11, _⟩ := H2.out.cells
    obtain ⟨_, _, _, _, _, _, _, _, f8, f9, f10, f11, _⟩ := H2.out.free
    have hlt2 := H2.out.lt
    clear c10
    by_cases hw : s.widen.row.length = s.widen.width
    · have q : ((s.row.length : Int) != (s.widen.width : Int)) = false := by rw [← hw, e1]; simp
      have HW := Lib.hid hw
      have E1 := Lib.hid e1
      have E2 := Lib.hid e2
      have E3 := Lib.hid e3
      clear hw e1 e2 e3 hc0
      go_quiet (fail)
      have H3 := Lib.hid (H2.out.drewN nq)
      have HF3 := Lib.hid (HF.out.drewN nq)
      obtain ⟨w3, hw3⟩ : ∃ w3, w3 = w2.drewN nq := ⟨_, rfl⟩
      rw [← hw3]
      replace H3 := Lib.hid (hw3 ▸ H3.out)
      replace HF3 := Lib.hid (hw3 ▸ HF3.out)
      clear hw3 H2 HF HX c8 c9 c11 f8 f9 f10 f11 hlt2
      obtain ⟨_, _, _, _, _, _, _, _, c8, c9, c10, c11, _⟩ := H3.out.cells
      obtain ⟨_, _, _, _, _, _, _, _, f8, f9, f10, f11, _⟩ := H3.out.free
      have hlt3 := H3.out.lt
      have h0 := (H3.out.drew).alloc (.cells #[.slice (some ⟨gr, 0, none⟩) s.row.length cr] 28)
      have hz := HB.out.rows
      rw [← E3.out] at hz
      have hcn := HB.out.count
      rw [← E2.out] at hcn
      go_wp2_with fail
      go_region_law ((refine step_append_lies _ (by rfl) _ _ 30 (by rfl) W0.heap.size 28 i0 (.slice none 0 0) 1 24 Tryz.underlying30 hi hz0 hz1 hz2 rfl (by decide) vl s.widen.rows.length lv (by rfl) h0.hl ⟨w3.heap.size, 0, none⟩ 1 1 [.slice (some ⟨gr, 0, none⟩) s.row.length cr] (by rfl) rfl (World.news_of_block (cs := #[.slice (some ⟨gr, 0, none⟩) s.row.length cr]) (t := 28) (fr := (0, 0)) (heap_alloc_new w3.drew _)) (by simp [Value.oneCell']) (by omega) (by unfold maxLen; omega) (by omega) h0.below.size (w3.drew.alloc (.cells #[.slice (some ⟨gr, 0, none⟩) s.row.length cr] 28)).heap.size rfl ?_; intro g cap w1 hown1 hgrow hat hlt1; have H4 := Lib.hid (h0.appRows hgrow hat hown1); obtain ⟨e8, q8⟩ := h0.grown hgrow h0.ne_l 8; replace e8 := e8.trans (rfl : _ = some _); obtain ⟨e9, q9⟩ := h0.grown hgrow h0.ne_l 9; replace e9 := e9.trans (rfl : _ = some _); obtain ⟨e10, q10⟩ := h0.grown hgrow h0.ne_l 10; replace e10 := e10.trans (rfl : _ = some _); have HG := Lib.hid hgrow; have HA := Lib.hid hat; clear hown1 hgrow hat))
      all_goals
        have HF4 := Lib.hid (fr_app2 (g := g) H3.out.drew H4.out rfl HG.out (fun j hj => .inr (.inr hj)) HA.out (fun j hj => by rcases hj with hj | hj | hj; exact .inl (.inl hj); exact absurd hj (by simp [Value.ownBlock]); exact .inr (by simpa [Value.ownBlock] using hj.symm)) (fun j hj => by simp only [List.flatMap_append, List.mem_append, List.flatMap_cons, List.flatMap_nil, List.append_nil] at hj; rcases hj with hj | hj; exact .inl (.inl hj); exact .inl (.inr (.inr (.inl (mem_ob.1 hj))))))
        have H5 := Lib.hid (H4.out.set 10 (.int .i64 ((s.widen.count : Int) + 1)) { s.widen with rows := s.widen.rows ++ [s.widen.row], row := [], count := s.widen.count + 1 } rfl rfl rfl rfl rfl)
        have HF5 := Lib.hid (H4.out.set_fr H5.out rfl rfl rfl)
        have HT := Lib.hid (show Does A W0 _ b _ 34 #[PT b, .func (.func 35) #[PT b] #[], .func (.func 36) #[PT b] #[]] from turn_r .fresh (R.mk H5.out))
        clear h0
        go_wp2_with (go_at_call 34; (with_reducible refine HT.out.mono ?_); rintro e w6 ⟨rfl, hR6, hF6⟩)
        go_end0
        refine ⟨rfl, ?_, (((HF3.out.drew.trans HF4.out).trans HF5.out).trans hF6)⟩
        rw [RS.endRow, if_pos HW.out]
        exact hR6
    · have q : ((s.row.length : Int) != (s.widen.width : Int)) = true := by rw [e1] at hw; simp; omega
      have HW := Lib.hid hw
      have E1 := Lib.hid e1
      have E2 := Lib.hid e2
      have E3 := Lib.hid e3
      clear hw e1 e2 e3 hc0
      go_quiet (fail)
      have p0 : (w2.drewN nq).cell? ⟨W.heap.size, 0, none⟩ = some (I l) := (bcell HX.out 0).trans rfl
      have p1 : (w2.drewN nq).cell? ⟨W.heap.size, 1, none⟩ = some (I c) := (bcell HX.out 1).trans rfl
      have gE : (w2.drewN nq).cell? ⟨3, 0, none⟩ = some (errV A 8) := H2.out.gl hF 8 (.inl (by omega))
      have k8 : coded 8 := .inl (by omega)
      have HFl := Lib.hid (fail_r l c 8 k8 (R.mk (H2.out.drewN nq)))
      go_wp2_with (go_at_call 45; (with_reducible refine HFl.out.mono ?_); rintro e w6 ⟨rfl, hR6, hF6⟩)
      refine bodyPost_ret (results_none rfl _ _ _) rfl ?_
      refine ⟨rfl, ?_, ((HF.out.drewN nq).trans hF6)⟩
      rw [RS.endRow, if_neg HW.out]
      exact hR6
end Go.Proofs.YtappphffbnkloaaGreatDoor.Sht
set_option linter.unusedVariables false
set_option linter.unusedSimpArgs false
namespace Go.Proofs.YtappphffbnkloaaGreatDoor.Sht
open Go Go.RowKit Go.Joins
attribute [local go_sem ↓] Go.wp_at_zero Go.wp_at_succ
variable {A : Nat → Addr} {W0 W : World} {b : Nat} {s : RS}
theorem okB_eq (x : UInt8) : okB x = ((32 ≤ x.toNat && x.toNat != 127) || x.toNat == 9 || x.toNat == 10 || x.toNat == 13) := by
  unfold okB
  have e : ∀ k : UInt8, (x == k) = (x.toNat == k.toNat) := fun k => by
    rw [Bool.eq_iff_iff, beq_iff_eq, beq_iff_eq]
    exact ⟨fun h => by rw [h], fun h => UInt8.toNat_inj.1 h⟩
  have e1 : decide (32 ≤ x) = decide (32 ≤ x.toNat) := by rw [Bool.eq_iff_iff, decide_eq_true_iff, decide_eq_true_iff, UInt8.le_iff_toNat_le]; exact Iff.rfl
  rw [e1, bne, e 127, e 9, e 10, e 13]
  rfl
set_option maxHeartbeats 1000000 in
theorem allowed_r (x : UInt8) (w : World) : Calls Tryz.prog 99 #[.int .u8 (x.toNat : Int)] w fun e w' => e = .returned (.bool (okB x)) ∧ w = w' := by
  rw [okB_eq]
  have hn := x.toNat_lt
  generalize x.toNat = n at hn
  by_cases h1 : 32 ≤ n
  · have g1 : decide (32 ≤ (n : Int)) = true := by simp; omega
    by_cases h2 : n = 127
    · subst h2
      go_enter Tryz.func99, Tryz.ntmps99
      go_wp2
      go_ret
      exact ⟨rfl, rfl⟩
    · have g2 : ((n : Int) != 127) = true := by simp; omega
      go_enter Tryz.func99, Tryz.ntmps99
      go_wp2
      go_ret
      refine ⟨?_, rfl⟩
      have : (32 ≤ n && n != 127) = true := by simp; omega
      rw [this]; rfl
  · have g1 : decide (32 ≤ (n : Int)) = false := by simp; omega
    have e1 : (decide (32 ≤ n) && n != 127) = false := by simp; omega
    rw [e1]
    by_cases h9 : n = 9
    · subst h9
      go_enter Tryz.func99, Tryz.ntmps99
      go_wp2
      go_ret
      exact ⟨rfl, rfl⟩
    · have g9 : ((n : Int) == 9) = false := by simp; omega
      have e9 : (n == 9) = false := by simp; omega
      rw [e9]
      by_cases h10 : n = 10
      · subst h10
        go_enter Tryz.func99, Tryz.ntmps99
        go_wp2
        go_ret
        exact ⟨rfl, rfl⟩
      · have g10 : ((n : Int) == 10) = false := by simp; omega
        have e10 : (n == 10) = false := by simp; omega
        rw [e10]
        by_cases h13 : n = 13
        · subst h13
          go_enter Tryz.func99, Tryz.ntmps99
          go_wp2
          go_ret
          exact ⟨rfl, rfl⟩
        · have g13 : ((n : Int) == 13) = false := by simp; omega
          have e13 : (n == 13) = false := by simp; omega
          rw [e13]
          go_enter Tryz.func99, Tryz.ntmps99
          go_wp2
          go_ret
          exact ⟨rfl, rfl⟩
theorem byte_eq {x : UInt8} {k : UInt8} (h : x = k) : ((x.toNat : Int) == (k.toNat : Int)) = true := by simp [h]
theorem byte_ne {x : UInt8} {k : UInt8} (h : x ≠ k) : ((x.toNat : Int) == (k.toNat : Int)) = false := by
  simp only [beq_eq_false_iff_ne, ne_eq]
  intro e
  exact h (UInt8.toNat_inj.1 (by omega))
theorem turn_fn (m : Md) (F G : FuncId) (h1 : nx b m = .func (.func F) #[PT b] #[]) (h2 : ov b m = .func (.func G) #[PT b] #[]) (w : World) (s : RS) (hR : R A W0 w b s) : Does A W0 w b (s.turn m) 34 #[PT b, .func (.func F) #[PT b] #[], .func (.func G) #[PT b] #[]] := by
  rw [← h1, ← h2]; exact turn_r m hR
/-- what a call of fail with the place of the next byte wants to read -/
theorem R.atCells (hF : SF W0 A) (h : R A W0 W b s) (e : Nat) (he : coded e) : W.cell? ⟨b, 2, none⟩ = some (I s.line) ∧ W.cell? ⟨b, 3, none⟩ = some (I s.col) ∧ W.cell? ⟨b, 5, none⟩ = some (I s.ml) ∧ W.cell? ⟨b, 6, none⟩ = some (I s.mc) ∧ W.cell? ⟨gl e, 0, none⟩ = some (errV A e) := by
  obtain ⟨_, _, _, _, _, h⟩ := h
  obtain ⟨_, _, c2, c3, _, c5, c6, _⟩ := h.cells
  exact ⟨c2, c3, c5, c6, h.gl hF e he⟩
theorem R.drew (h : R A W0 W b s) : R A W0 W.drew b s := by
  obtain ⟨_, _, _, _, _, h⟩ := h
  exact R.mk h.drew
theorem cod {e : Nat} (h : (1 ≤ e ∧ e ≤ 9) ∨ e = 20) : coded e := h
set_option maxHeartbeats 2000000 in
set_option maxRecDepth 100000 in
theorem quoted_r (hF : SF W0 A) (x : UInt8) {N : Nat} (hB : s.Bd N) (hN : N ≤ 1099511627776) (hR : R A W0 W b s) : Does A W0 W b (s.quoted x) 86 #[PT b, .int .u8 (x.toNat : Int)] := by
  have HA := Lib.hid (allowed_r x)
  have HT := Lib.hid (turn_fn .closed _ _ rfl rfl W s hR)
  have HP := Lib.hid (put_r hF x hB hN hR)
  obtain ⟨c2, c3, _, _, gE⟩ := hR.atCells hF 4 (cod (by omega))
  replace gE : W.cell? ⟨7, 0, none⟩ = some (errV A 4) := gE
  have HL := Lib.hid (fail_r s.line s.col 4 (cod (by omega)) hR.drew)
  clear hR hB
  by_cases hx : x = 34
  · have q : ((x.toNat : Int) == 34) = true := byte_eq hx
    have HX := Lib.hid hx
    clear hx
    go_enter Tryz.func86, Tryz.ntmps86
    go_wp2_with (go_at_call 34; (with_reducible refine HT.out.mono ?_); rintro e w1 ⟨rfl, hR1, hF1⟩)
    go_end0
    refine ⟨rfl, ?_, hF1⟩
    rw [RS.quoted, if_pos HX.out]
    exact hR1
  · have q : ((x.toNat : Int) == 34) = false := byte_ne hx
    have HX := Lib.hid hx
    clear hx
    by_cases ha : okB x = false
    · rw [ha] at HA
      have HK := Lib.hid ha
      clear ha
      go_enter Tryz.func86, Tryz.ntmps86
      go_wp2_with (go_at_call 99; (with_reducible refine (HA.out _).mono ?_); rintro e w1 ⟨rfl, rfl⟩)
      go_still_tail 6, (by kernel_rfl)
      change wpList _ _ _ _ _ W.drew
      go_wp2_with (go_at_call 45; (with_reducible refine HL.out.mono ?_); rintro e w1 ⟨rfl, hR1, hF1⟩)
      go_end0
      refine ⟨rfl, ?_, (Fr.refl b _).drew.trans hF1⟩
      rw [RS.quoted, if_neg HX.out, if_pos HK.out]
      exact hR1
    · have ha' : okB x = true := by simpa using ha
      rw [ha'] at HA
      have HK := Lib.hid ha
      clear ha ha'
      go_enter Tryz.func86, Tryz.ntmps86
      go_wp2_with (first | (go_at_call 99; (with_reducible refine (HA.out _).mono ?_); rintro e w1 ⟨rfl, rfl⟩) | (go_at_call 100; (with_reducible refine HP.out.mono ?_); rintro e w1 ⟨rfl, hR1, hF1⟩))
      go_end0
      refine ⟨rfl, ?_, hF1⟩
      rw [RS.quoted, if_neg HX.out, if_neg HK.out]
      exact hR1
end Go.Proofs.YtappphffbnkloaaGreatDoor.Sht
set_option linter.unusedVariables false
set_option linter.unusedSimpArgs false
namespace Go.Proofs.YtappphffbnkloaaGreatDoor.Sht
open Go Go.RowKit Go.Joins
attribute [local go_sem ↓] Go.wp_at_zero Go.wp_at_succ
variable {A : Nat → Addr} {W0 W : World} {b : Nat} {s : RS}
theorem RD.mark {vc vr vl fl : Value} {lv : List Value} (h : RD A W0 W b s vc vr vl fl lv) : R A W0 ((W.setCell ⟨b, 5, none⟩ (I s.line)).setCell ⟨b, 6, none⟩ (I s.col)) b s.mark ∧ Fr b W ((W.setCell ⟨b, 5, none⟩ (I s.line)).setCell ⟨b, 6, none⟩ (I s.col)) := by
  have h1 := h.set 5 (I s.line) { s with ml := s.line } rfl rfl rfl rfl rfl
  have h2 := h1.set 6 (I s.col) s.mark rfl rfl rfl rfl rfl
  exact ⟨R.mk h2, (h.set_fr h1 rfl rfl rfl).trans (h1.set_fr h2 rfl rfl rfl)⟩
theorem endCell_row (s : RS) : s.endCell.row.length = s.row.length + 1 := by simp [RS.endCell]
set_option maxHeartbeats 2000000 in
set_option maxRecDepth 100000 in
theorem stop_no (x : UInt8) (h1 : x ≠ 44) (h2 : x ≠ 13) (w : World) : Calls Tryz.prog 101 #[PT b, .int .u8 (x.toNat : Int)] w fun e w' => e = .returned (.bool false) ∧ w = w' := by
  have q1 : ((x.toNat : Int) == 44) = false := byte_ne h1
  have q2 : ((x.toNat : Int) == 13) = false := byte_ne h2
  clear h1 h2
  go_enter Tryz.func101, Tryz.ntmps101
  go_wp2
  go_ret
  exact ⟨rfl, rfl⟩
set_option maxHeartbeats 2000000 in
set_option maxRecDepth 100000 in
theorem stop_cr (hF : SF W0 A) (x : UInt8) (h2 : x = 13) {N : Nat} (hB : s.Bd N) (hN : N ≤ 1099511627776) (hR : R A W0 W b s) :
    Calls Tryz.prog 101 #[PT b, .int .u8 (x.toNat : Int)] W fun e w' => e = .returned (.bool true) ∧ R A W0 w' b s.cr ∧ Fr b W w' := by
  have q1 : ((x.toNat : Int) == 44) = false := byte_ne (show x ≠ 44 by rw [h2]; decide)
  have q2 : ((x.toNat : Int) == 13) = true := byte_eq h2
  have HE := Lib.hid (endCell_r hF hB hN hR)
  have HT := Lib.hid (turn_fn (A := A) (W0 := W0) (b := b) .back _ _ rfl rfl)
  clear h2 hB hR
  go_enter Tryz.func101, Tryz.ntmps101
  go_wp2_with (first
    | (go_at_call 102; (with_reducible refine HE.out.mono ?_); rintro e w1 ⟨rfl, hR1, hF1⟩; obtain ⟨vc, vr, vl, fl, lv, h⟩ := hR1; obtain ⟨_, _, c2, c3, _, c5, c6, _⟩ := h.cells; obtain ⟨_, _, _, _, _, f5, f6, _⟩ := h.free; have HH := Lib.hid h; have HF := Lib.hid hF1; clear h hF1)
    | (go_at_call 34; (with_reducible refine (HT.out _ _ HH.out.mark.1).mono ?_); rintro e w2 ⟨rfl, hR2, hF2⟩))
  go_ret
  exact ⟨rfl, hR2, (HF.out.trans HH.out.mark.2).trans hF2⟩
set_option maxHeartbeats 2000000 in
set_option maxRecDepth 100000 in
theorem stop_comma (hF : SF W0 A) (x : UInt8) (h2 : x = 44) {N : Nat} (hB : s.Bd N) (hN : N ≤ 1099511627776) (hR : R A W0 W b s) :
    Calls Tryz.prog 101 #[PT b, .int .u8 (x.toNat : Int)] W fun e w' => e = .returned (.bool true) ∧ R A W0 w' b s.comma ∧ Fr b W w' := by
  have q1 : ((x.toNat : Int) == 44) = true := byte_eq h2
  have HE := Lib.hid (endCell_r hF hB hN hR)
  have HT := Lib.hid (turn_fn (A := A) (W0 := W0) (b := b) .start _ _ rfl rfl)
  have HS := Lib.hid hF
  clear h2 hB hR hF
  by_cases hq : s.endCell.row.length = 64
  · have q2 : ((s.endCell.row.length : Int) == 64) = true := by simp [hq]
    have HQ := Lib.hid hq
    clear hq
    go_enter Tryz.func101, Tryz.ntmps101
    go_wp2_with (go_at_call 102; (with_reducible refine HE.out.mono ?_); rintro e w1 ⟨rfl, hR1, hF1⟩; obtain ⟨c2, c3, _, _, gE⟩ := hR1.atCells HS.out 6 (cod (by omega)); replace gE := gE.trans (rfl : _ = some (errV A 6)); have HR1 := Lib.hid hR1; obtain ⟨vc, vr, vl, fl, lv, h⟩ := hR1; obtain ⟨gr, cr, rfl, _⟩ := h.hr.form (by rw [endCell_row]; omega); obtain ⟨_, _, _, _, _, _, _, _, c8, _⟩ := h.cells; have HF := Lib.hid hF1; clear h hF1)
    have gE' : w1.cell? ⟨9, 0, none⟩ = some (errV A 6) := gE
    go_still_tail 6, (by kernel_rfl)
    change wpList _ _ _ _ _ w1.drew
    have HL := Lib.hid (fail_r s.endCell.line s.endCell.col 6 (cod (by omega)) HR1.out.drew)
    go_wp2_with (first
      | (go_at_call 45; (with_reducible refine HL.out.mono ?_); rintro e w2 ⟨rfl, hR2, hF2⟩)
      | (go_at_call 34; (with_reducible refine (HT.out _ _ hR2).mono ?_); rintro e w3 ⟨rfl, hR3, hF3⟩))
    go_ret
    refine ⟨rfl, ?_, (HF.out.drew.trans hF2).trans hF3⟩
    rw [RS.comma, if_pos HQ.out]
    exact hR3
  · have q2 : ((s.endCell.row.length : Int) == 64) = false := by simp; omega
    have HQ := Lib.hid hq
    clear hq
    go_enter Tryz.func101, Tryz.ntmps101
    go_wp2_with (first
      | (go_at_call 102; (with_reducible refine HE.out.mono ?_); rintro e w1 ⟨rfl, hR1, hF1⟩; have HR1 := Lib.hid hR1; obtain ⟨vc, vr, vl, fl, lv, h⟩ := hR1; obtain ⟨gr, cr, rfl, _⟩ := h.hr.form (by rw [endCell_row]; omega); obtain ⟨_, _, _, _, _, _, _, _, c8, _⟩ := h.cells; have HF := Lib.hid hF1; clear h hF1)
      | (go_at_call 34; (with_reducible refine (HT.out _ _ HR1.out).mono ?_); rintro e w3 ⟨rfl, hR3, hF3⟩))
    go_ret
    refine ⟨rfl, ?_, HF.out.trans hF3⟩
    rw [RS.comma, if_neg HQ.out]
    exact hR3
end Go.Proofs.YtappphffbnkloaaGreatDoor.Sht
set_option linter.unusedVariables false
set_option linter.unusedSimpArgs false
namespace Go.Proofs.YtappphffbnkloaaGreatDoor.Sht
open Go Go.RowKit Go.Joins
attribute [local go_sem ↓] Go.wp_at_zero Go.wp_at_succ
variable {A : Nat → Addr} {W0 W : World} {b : Nat} {s : RS}
set_option maxHeartbeats 4000000 in
set_option maxRecDepth 100000 in
theorem plain_r (hF : SF W0 A) (x : UInt8) {N : Nat} (hB : s.Bd N) (hN : N ≤ 1099511627776) (hR : R A W0 W b s) : Does A W0 W b (s.plain x) 88 #[PT b, .int .u8 (x.toNat : Int)] := by
  have HA := Lib.hid (allowed_r x)
  have HP := Lib.hid (put_r hF x hB hN hR)
  obtain ⟨c2, c3, _, _, gE4⟩ := hR.atCells hF 4 (cod (by omega))
  obtain ⟨_, _, _, _, gE3⟩ := hR.atCells hF 3 (cod (by omega))
  obtain ⟨_, _, _, _, gE2⟩ := hR.atCells hF 2 (cod (by omega))
  replace gE4 : W.cell? ⟨7, 0, none⟩ = some (errV A 4) := gE4
  replace gE3 : W.cell? ⟨1, 0, none⟩ = some (errV A 3) := gE3
  replace gE2 : W.cell? ⟨6, 0, none⟩ = some (errV A 2) := gE2
  have HL4 := Lib.hid (fail_r s.line s.col 4 (cod (by omega)) hR.drew)
  have HL3 := Lib.hid (fail_r s.line s.col 3 (cod (by omega)) hR.drew)
  have HL2 := Lib.hid (fail_r s.line s.col 2 (cod (by omega)) hR.drew)
  by_cases h44 : x = 44
  · have HS := Lib.hid (stop_comma hF x h44 hB hN hR)
    have e : s.plain x = s.comma := by rw [RS.plain, if_pos h44]
    rw [e]
    clear hR hB h44 e
    go_enter Tryz.func88, Tryz.ntmps88
    go_wp2_with (go_at_call 101; (with_reducible refine HS.out.mono ?_); rintro e w1 ⟨rfl, hR1, hF1⟩)
    go_end0
    exact ⟨rfl, hR1, hF1⟩
  by_cases h13 : x = 13
  · have HS := Lib.hid (stop_cr hF x h13 hB hN hR)
    have e : s.plain x = s.cr := by rw [RS.plain, if_neg h44, if_pos h13]
    rw [e]
    clear hR hB h13 h44 e
    go_enter Tryz.func88, Tryz.ntmps88
    go_wp2_with (go_at_call 101; (with_reducible refine HS.out.mono ?_); rintro e w1 ⟨rfl, hR1, hF1⟩)
    go_end0
    exact ⟨rfl, hR1, hF1⟩
  have HS := Lib.hid (stop_no (b := b) x h44 h13)
  clear hR hB
  by_cases h10 : x = 10
  · have e : s.plain x = s.fail s.line s.col 3 := by rw [RS.plain, if_neg h44, if_neg h13, if_pos h10]
    rw [e]
    have q10 : ((x.toNat : Int) == 10) = true := byte_eq h10
    clear h44 h13 e h10
    go_enter Tryz.func88, Tryz.ntmps88
    go_wp2_with (first | (go_at_call 101; (with_reducible refine (HS.out _).mono ?_); rintro e w1 ⟨rfl, rfl⟩))
    go_still_tail 6, (by kernel_rfl)
    change wpList _ _ _ _ _ W.drew
    go_wp2_with (go_at_call 45; (with_reducible refine HL3.out.mono ?_); rintro e w1 ⟨rfl, hR1, hF1⟩)
    go_end0
    refine ⟨rfl, ?_, (Fr.refl b _).drew.trans hF1⟩
    exact hR1
  by_cases h34 : x = 34
  · have e : s.plain x = s.fail s.line s.col 2 := by rw [RS.plain, if_neg h44, if_neg h13, if_neg h10, if_pos h34]
    rw [e]
    have q10 : ((x.toNat : Int) == 10) = false := byte_ne h10
    have q34 : ((x.toNat : Int) == 34) = true := byte_eq h34
    clear h44 h13 e h10 h34
    go_enter Tryz.func88, Tryz.ntmps88
    go_wp2_with (first | (go_at_call 101; (with_reducible refine (HS.out _).mono ?_); rintro e w1 ⟨rfl, rfl⟩))
    go_still_tail 6, (by kernel_rfl)
    change wpList _ _ _ _ _ W.drew
    go_wp2_with (go_at_call 45; (with_reducible refine HL2.out.mono ?_); rintro e w1 ⟨rfl, hR1, hF1⟩)
    go_end0
    refine ⟨rfl, ?_, (Fr.refl b _).drew.trans hF1⟩
    exact hR1
  by_cases h9 : x = 9
  · have e : s.plain x = s.fail s.line s.col 4 := by rw [RS.plain, if_neg h44, if_neg h13, if_neg h10, if_neg h34, if_pos (.inl h9)]
    rw [e]
    have q10 : ((x.toNat : Int) == 10) = false := byte_ne h10
    have q34 : ((x.toNat : Int) == 34) = false := byte_ne h34
    have q9 : ((x.toNat : Int) == 9) = true := byte_eq h9
    clear h44 h13 e h10 h34 h9
    go_enter Tryz.func88, Tryz.ntmps88
    go_wp2_with (first | (go_at_call 101; (with_reducible refine (HS.out _).mono ?_); rintro e w1 ⟨rfl, rfl⟩))
    go_still_tail 6, (by kernel_rfl)
    change wpList _ _ _ _ _ W.drew
    go_wp2_with (go_at_call 45; (with_reducible refine HL4.out.mono ?_); rintro e w1 ⟨rfl, hR1, hF1⟩)
    go_end0
    refine ⟨rfl, ?_, (Fr.refl b _).drew.trans hF1⟩
    exact hR1
  by_cases hk : okB x = false
  · have e : s.plain x = s.fail s.line s.col 4 := by rw [RS.plain, if_neg h44, if_neg h13, if_neg h10, if_neg h34, if_pos (.inr hk)]
    rw [e]
    have q10 : ((x.toNat : Int) == 10) = false := byte_ne h10
    have q34 : ((x.toNat : Int) == 34) = false := byte_ne h34
    have q9 : ((x.toNat : Int) == 9) = false := byte_ne h9
    rw [hk] at HA
    clear h44 h13 e h10 h34 h9 hk
    go_enter Tryz.func88, Tryz.ntmps88
    go_wp2_with (first | (go_at_call 101; (with_reducible refine (HS.out _).mono ?_); rintro e w1 ⟨rfl, rfl⟩) | (go_at_call 99; (with_reducible refine (HA.out _).mono ?_); rintro e w1 ⟨rfl, rfl⟩))
    go_still_tail 6, (by kernel_rfl)
    change wpList _ _ _ _ _ W.drew
    go_wp2_with (go_at_call 45; (with_reducible refine HL4.out.mono ?_); rintro e w1 ⟨rfl, hR1, hF1⟩)
    go_end0
    refine ⟨rfl, ?_, (Fr.refl b _).drew.trans hF1⟩
    exact hR1
  · have e : s.plain x = s.put x := by rw [RS.plain, if_neg h44, if_neg h13, if_neg h10, if_neg h34, if_neg (by simp only [h9, hk]; decide)]
    rw [e]
    have q10 : ((x.toNat : Int) == 10) = false := byte_ne h10
    have q34 : ((x.toNat : Int) == 34) = false := byte_ne h34
    have q9 : ((x.toNat : Int) == 9) = false := byte_ne h9
    rw [show okB x = true by simpa using hk] at HA
    clear h44 h13 e h10 h34 h9 hk
    go_enter Tryz.func88, Tryz.ntmps88
    go_wp2_with (first | (go_at_call 101; (with_reducible refine (HS.out _).mono ?_); rintro e w1 ⟨rfl, rfl⟩) | (go_at_call 99; (with_reducible refine (HA.out _).mono ?_); rintro e w1 ⟨rfl, rfl⟩) | (go_at_call 100; (with_reducible refine HP.out.mono ?_); rintro e w1 ⟨rfl, hR1, hF1⟩))
    go_end0
    exact ⟨rfl, hR1, hF1⟩
theorem RS.Bd.turn {N : Nat} (h : s.Bd N) (m : Md) : (s.turn m).Bd N := ⟨h.line, h.col, h.all, h.ml, h.mc, h.cell, h.row, h.rows, h.count, h.width⟩
set_option maxHeartbeats 4000000 in
set_option maxRecDepth 100000 in
theorem closed_r (hF : SF W0 A) (x : UInt8) {N : Nat} (hB : s.Bd N) (hN : N ≤ 1099511627776) (hR : R A W0 W b s) : Does A W0 W b (s.closed x) 98 #[PT b, .int .u8 (x.toNat : Int)] := by
  obtain ⟨c2, c3, _, _, gE3⟩ := hR.atCells hF 3 (cod (by omega))
  obtain ⟨_, _, _, _, gE2⟩ := hR.atCells hF 2 (cod (by omega))
  replace gE3 : W.cell? ⟨1, 0, none⟩ = some (errV A 3) := gE3
  replace gE2 : W.cell? ⟨6, 0, none⟩ = some (errV A 2) := gE2
  have HL3 := Lib.hid (fail_r s.line s.col 3 (cod (by omega)) hR.drew)
  have HL2 := Lib.hid (fail_r s.line s.col 2 (cod (by omega)) hR.drew)
  by_cases h34 : x = 34
  · have HT := Lib.hid (turn_fn .quoted _ _ rfl rfl W s hR)
    have HB := Lib.hid (hB.turn .quoted)
    have HFF := Lib.hid hF
    have e : s.closed x = (s.turn .quoted).put x := by rw [RS.closed, if_pos h34]
    rw [e]
    have q34 : ((x.toNat : Int) == 34) = true := byte_eq h34
    clear hR hB h34 hF e
    go_enter Tryz.func98, Tryz.ntmps98
    go_wp2_with (first
      | (go_at_call 34; (with_reducible refine HT.out.mono ?_); rintro e w1 ⟨rfl, hR1, hF1⟩; have HP := Lib.hid (put_r (N := N) HFF.out x HB.out hN hR1))
      | (go_at_call 100; (with_reducible refine HP.out.mono ?_); rintro e w2 ⟨rfl, hR2, hF2⟩))
    go_end0
    exact ⟨rfl, hR2, hF1.trans hF2⟩
  by_cases h44 : x = 44
  · have HS := Lib.hid (stop_comma hF x h44 hB hN hR)
    have e : s.closed x = s.comma := by rw [RS.closed, if_neg h34, if_pos h44]
    rw [e]
    have q34 : ((x.toNat : Int) == 34) = false := byte_ne h34
    clear hR hB h44 h34 e
    go_enter Tryz.func98, Tryz.ntmps98
    go_wp2_with (go_at_call 101; (with_reducible refine HS.out.mono ?_); rintro e w1 ⟨rfl, hR1, hF1⟩)
    go_end0
    exact ⟨rfl, hR1, hF1⟩
  by_cases h13 : x = 13
  · have HS := Lib.hid (stop_cr hF x h13 hB hN hR)
    have e : s.closed x = s.cr := by rw [RS.closed, if_neg h34, if_neg h44, if_pos h13]
    rw [e]
    have q34 : ((x.toNat : Int) == 34) = false := byte_ne h34
    clear hR hB h13 h44 h34 e
    go_enter Tryz.func98, Tryz.ntmps98
    go_wp2_with (go_at_call 101; (with_reducible refine HS.out.mono ?_); rintro e w1 ⟨rfl, hR1, hF1⟩)
    go_end0
    exact ⟨rfl, hR1, hF1⟩
  have HS := Lib.hid (stop_no (b := b) x h44 h13)
  clear hR hB
  have q34 : ((x.toNat : Int) == 34) = false := byte_ne h34
  by_cases h10 : x = 10
  · have e : s.closed x = s.fail s.line s.col 3 := by rw [RS.closed, if_neg h34, if_neg h44, if_neg h13, if_pos h10]
    rw [e]
    have q10 : ((x.toNat : Int) == 10) = true := byte_eq h10
    clear h34 h44 h13 h10 e
    go_enter Tryz.func98, Tryz.ntmps98
    go_wp2_with (go_at_call 101; (with_reducible refine (HS.out _).mono ?_); rintro e w1 ⟨rfl, rfl⟩)
    go_still_tail 6, (by kernel_rfl)
    change wpList _ _ _ _ _ W.drew
    go_wp2_with (go_at_call 45; (with_reducible refine HL3.out.mono ?_); rintro e w1 ⟨rfl, hR1, hF1⟩)
    go_end0
    refine ⟨rfl, ?_, (Fr.refl b _).drew.trans hF1⟩
    exact hR1
  · have e : s.closed x = s.fail s.line s.col 2 := by rw [RS.closed, if_neg h34, if_neg h44, if_neg h13, if_neg h10]
    rw [e]
    have q10 : ((x.toNat : Int) == 10) = false := byte_ne h10
    clear h34 h44 h13 h10 e
    go_enter Tryz.func98, Tryz.ntmps98
    go_wp2_with (go_at_call 101; (with_reducible refine (HS.out _).mono ?_); rintro e w1 ⟨rfl, rfl⟩)
    go_still_tail 6, (by kernel_rfl)
    change wpList _ _ _ _ _ W.drew
    go_wp2_with (go_at_call 45; (with_reducible refine HL2.out.mono ?_); rintro e w1 ⟨rfl, hR1, hF1⟩)
    go_end0
    refine ⟨rfl, ?_, (Fr.refl b _).drew.trans hF1⟩
    exact hR1
set_option maxHeartbeats 4000000 in
set_option maxRecDepth 100000 in
theorem back_r (hF : SF W0 A) (x : UInt8) {N : Nat} (hB : s.Bd N) (hN : N ≤ 1099511627776) (hne : 0 < s.row.length) (hR : R A W0 W b s) : Does A W0 W b (s.back x) 112 #[PT b, .int .u8 (x.toNat : Int)] := by
  obtain ⟨_, _, c5, c6, gE3⟩ := hR.atCells hF 3 (cod (by omega))
  replace gE3 : W.cell? ⟨1, 0, none⟩ = some (errV A 3) := gE3
  have HL3 := Lib.hid (fail_r s.ml s.mc 3 (cod (by omega)) hR.drew)
  have HE := Lib.hid (endRow_r hF s.ml s.mc hB hN hne hR)
  clear hR hB
  by_cases h10 : x = 10
  · have q : ((x.toNat : Int) != 10) = false := by
      have := byte_eq h10
      rw [bne, show (10 : Int) = ((10 : UInt8).toNat : Int) from rfl, this]; rfl
    have e : s.back x = s.endRow s.ml s.mc := by rw [RS.back, if_pos h10]
    rw [e]
    clear h10 e
    go_enter Tryz.func112, Tryz.ntmps112
    go_wp2_with (go_at_call 103; (with_reducible refine HE.out.mono ?_); rintro e w1 ⟨rfl, hR1, hF1⟩)
    go_end0
    exact ⟨rfl, hR1, hF1⟩
  · have q : ((x.toNat : Int) != 10) = true := by
      have := byte_ne h10
      rw [bne, show (10 : Int) = ((10 : UInt8).toNat : Int) from rfl, this]; rfl
    have e : s.back x = s.fail s.ml s.mc 3 := by rw [RS.back, if_neg h10]
    rw [e]
    clear h10 e
    go_enter Tryz.func112, Tryz.ntmps112
    go_wp2
    go_still_tail 6, (by kernel_rfl)
    change wpList _ _ _ _ _ W.drew
    go_wp2_with (go_at_call 45; (with_reducible refine HL3.out.mono ?_); rintro e w1 ⟨rfl, hR1, hF1⟩)
    refine bodyPost_ret (results_none rfl _ _ _) rfl ?_
    exact ⟨rfl, hR1, (Fr.refl b _).drew.trans hF1⟩
end Go.Proofs.YtappphffbnkloaaGreatDoor.Sht
