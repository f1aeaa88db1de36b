/- The reference's Parse is the machine's. -/
import Derived.Test.YtinjlpodcabfaaaDoorShtU
import Derived.Test.YtinjlpodcabfaaaDoorGSxf14
set_option linter.unusedVariables false
set_option linter.unusedSimpArgs false
namespace Go.Proofs.YtinjlpodcabfaaaDoor.Sht
open Go Go.RowKit Go.Proofs.YtinjlpodcabfaaaDoorW.PrintWords Go.Proofs.YtinjlpodcabfaaaDoor.GS
theorem feed_pos : ∀ (l : List UInt8) (s : RS), s.fault = none → (s.feed l).fault = none → (s.feed l).all = s.all + l.length ∧ ((s.feed l).line, (s.feed l).col) = l.foldl lcS (s.line, s.col)
  | [], s, _, _ => ⟨rfl, rfl⟩
  | x :: l, s, h, hf => by
    rw [feed_cons h] at hf ⊢
    have h1 : (s.step x).fault = none := by
      cases hc : (s.step x).fault with
      | none => rfl
      | some f => rw [feed_stop (by rw [hc]; simp), hc] at hf; cases hf
    have hn : s.all ≠ 262144 := fun e => by rw [RS.step, if_pos e] at h1; cases h1
    have hk := kNext (up s) x
    have e : s.step x = (RS.next (up s) x).on x := step_on hn x
    obtain ⟨k1, k2⟩ := feed_pos l _ h1 hf
    refine ⟨?_, ?_⟩
    · rw [k1, e]
      have : ((RS.next (up s) x).on x).all = s.all + 1 := by
        unfold RS.on
        split <;> exact hk.all
      rw [this, List.length_cons]; omega
    · rw [k2, e, List.foldl_cons]
      congr 1
      unfold RS.on lcS
      split
      · show ((RS.next (up s) x).line + 1, 0) = (s.line + 1, 0)
        rw [hk.line]; rfl
      · show ((RS.next (up s) x).line, (RS.next (up s) x).col + 1) = (s.line, s.col + 1)
        rw [hk.line, hk.col]; rfl
theorem md_cases (s : RS) : s.md = .fresh ∨ (s.md = .start ∨ s.md = .plain ∨ s.md = .closed) ∨ s.md = .quoted ∨ s.md = .back := by
  cases s.md <;> simp
theorem over_fresh {s : RS} (h : s.md = .fresh) : s.over = s := by unfold RS.over; rw [h]
theorem over_row {s : RS} (h : s.md = .start ∨ s.md = .plain ∨ s.md = .closed) : s.over = s.endCell.endRow s.line s.col := by
  rcases h with h | h | h <;> (unfold RS.over; rw [h])
theorem over_quoted {s : RS} (h : s.md = .quoted) : s.over = s.fail s.ml s.mc 1 := by unfold RS.over; rw [h]
theorem over_back {s : RS} (h : s.md = .back) : s.over = s.fail s.ml s.mc 3 := by unfold RS.over; rw [h]
/-- rows that were told make no difference to the end -/
theorem fin_told (s : RS) : (RS.fin { s with rows := [] }).fault = s.fin.fault ∧ (s.fin.fault = none → s.fin.rows = s.rows ++ (RS.fin { s with rows := [] }).rows) := by
  have hrow : ∀ (s : RS) (l c : Nat), (RS.endRow { s with rows := [] } l c).fault = (s.endRow l c).fault ∧ ((s.endRow l c).fault = none → (s.endRow l c).rows = s.rows ++ (RS.endRow { s with rows := [] } l c).rows) := by
    intro s l c
    have e1 : (RS.widen { s with rows := [] }) = { s.widen with rows := [] } := by unfold RS.widen; split <;> rfl
    have e2 := (wid_eq s).2.2
    unfold RS.endRow
    rw [e1]
    by_cases h : s.widen.row.length = s.widen.width
    · rw [if_pos h, if_pos h]
      refine ⟨rfl, fun _ => ?_⟩
      show s.widen.rows ++ [s.widen.row] = s.rows ++ ([] ++ [s.widen.row])
      rw [e2]; simp
    · rw [if_neg h, if_neg h]
      exact ⟨rfl, fun e => by cases e⟩
  unfold RS.fin
  by_cases hf : s.fault = none
  · rw [if_pos hf, if_pos (show RS.fault { s with rows := [] } = none from hf)]
    rcases md_cases s with h | h | h | h
    · rw [over_fresh h, over_fresh (s := { s with rows := [] }) h]
      exact ⟨rfl, fun _ => (List.append_nil _).symm⟩
    · rw [over_row h, over_row (s := { s with rows := [] }) h]
      exact hrow s.endCell s.line s.col
    · rw [over_quoted h, over_quoted (s := { s with rows := [] }) h]
      exact ⟨rfl, fun e => by cases e⟩
    · rw [over_back h, over_back (s := { s with rows := [] }) h]
      exact ⟨rfl, fun e => by cases e⟩
  · rw [if_neg hf, if_neg (show ¬ RS.fault { s with rows := [] } = none from hf)]
    exact ⟨rfl, fun e => absurd e hf⟩
variable (t : ByteArray)
theorem extract_len (n : Nat) (h : n ≤ (L8 t).length) : L8 (t.extract 0 n) = (L8 t).take n := by
  have e : t.extract 0 n = tx ((L8 t).take n) := by
    have := extract_tx t 0 n (Nat.zero_le _) h
    simpa using this
  rw [e]; rfl
theorem shows_bad (rows : List (List (List UInt8))) (c q : Nat) (hc : c ≠ 0) (hl : (L8 t).length ≤ 140737488355328) (h : Bad t rows c q) :
    Ev (fun k => larderref04_shows.f k t (plc t c q).1 (plc t c q).2.1 (plc t c q).2.2.1 (plc t c q).2.2.2.1 (plc t c q).2.2.2.2) (RS.new.feed (L8 t)).fault.isSome := by
  have hsz := L8_len t
  obtain ⟨hq, hr, h⟩ := h
  have hcz : ¬ ((c : Int) = 0) := by omega
  refine Ev.of (fun k => rfl) (Ev.neg (show ¬ (c : Int) = 0 from hcz) ?_)
  rcases h with ⟨h1, h2, h3, h4, h5⟩ | ⟨h1, h2, h3⟩
  · have e : (RS.new.feed (L8 t)).fault.isSome = true := by rw [h1]; rfl
    rw [e]
    have e1 : ((plc t (c : Int) q).1 == 1) = false := by
      show ((c : Int) == 1) = false
      rw [beq_eq_false_iff_ne]; omega
    rw [e1]
    refine Ev.succ (fun k => larderref04_shows.j0.eq_2 ..) (Ev.neg (by decide) ?_)
    by_cases c3 : c = 3
    · refine Ev.pos (show (c : Int) = 3 by omega) (Ev.pos (show (0 : Int) ≤ q by omega) ?_)
      rcases h4 c3 with ⟨hh, hx⟩ | hh
      · exact Ev.pos (show (q : Int) < (t.size : Int) by omega) (Ev.pos ((bt_is t q hh 10).2 hx) Ev.here)
      · refine Ev.pos (show (q : Int) < (t.size : Int) by omega) ?_
        by_cases hx : bt t (q : Int) = 10
        · exact Ev.pos hx Ev.here
        · refine Ev.neg hx (Ev.const ?_)
          show some (decide (wrap64 ((q : Int) + 1) < (t.size : Int))) = _
          rw [w1 _ (by omega)]
          congr 1
          exact decide_eq_true (by omega)
    · refine Ev.neg (show ¬ (c : Int) = 3 by omega) ?_
      by_cases c8 : c = 8
      · refine Ev.pos (show (c : Int) = 8 by omega) (Ev.const ?_)
        show some (decide ((q : Int) < (t.size : Int))) = _
        congr 1
        have := h5 c8
        exact decide_eq_true (by omega)
      · exact Ev.neg (show ¬ (c : Int) = 8 by omega) Ev.here
  · have e : (RS.new.feed (L8 t)).fault.isSome = false := by rw [h1]; rfl
    rw [e]
    by_cases c1 : c = 1
    · have e1 : ((plc t (c : Int) q).1 == 1) = true := by show ((c : Int) == 1) = true; rw [c1]; rfl
      rw [e1]
      exact Ev.succ (fun k => larderref04_shows.j0.eq_2 ..) (Ev.pos rfl Ev.here)
    · have e1 : ((plc t (c : Int) q).1 == 1) = false := by
        show ((c : Int) == 1) = false
        rw [beq_eq_false_iff_ne]; omega
      rw [e1]
      refine Ev.succ (fun k => larderref04_shows.j0.eq_2 ..) (Ev.neg (by decide) ?_)
      rcases h3 with h3 | ⟨c3, hq1, hh, hx⟩ | ⟨c8, hq8⟩
      · exact absurd h3 c1
      · refine Ev.pos (show (c : Int) = 3 by omega) (Ev.pos (show (0 : Int) ≤ q by omega) (Ev.pos (show (q : Int) < (t.size : Int) by omega) (Ev.neg (fun e => hx ((bt_is t q hh 10).1 e)) (Ev.const ?_))))
        show some (decide (wrap64 ((q : Int) + 1) < (t.size : Int))) = _
        rw [w1 _ (by omega)]
        congr 1
        exact decide_eq_false (by omega)
      · refine Ev.neg (show ¬ (c : Int) = 3 by omega) (Ev.pos (show (c : Int) = 8 by omega) (Ev.const ?_))
        show some (decide ((q : Int) < (t.size : Int))) = _
        congr 1
        exact decide_eq_false (by omega)
theorem shows_ok : Ev (fun k => larderref04_shows.f k t 0 0 0 0 0) false := by
  refine Ev.of (fun k => rfl) (Ev.pos rfl ?_)
  exact Ev.succ (fun k => larderref04_shows.j0.eq_2 ..) (Ev.pos rfl Ev.here)
theorem Read_ev (hl : (L8 t).length ≤ 140737488355328) : ∃ r, Ev (fun k => larderref04_Read.f k t) r ∧ TR t r := by
  have hsz := L8_len t
  by_cases hs : (L8 t).length ≤ 262144
  · obtain ⟨r, h1, h2⟩ := read_ev t hs
    refine ⟨r, Ev.of (fun k => rfl) (Ev.pos (by omega) (Ev.bind h1 ?_)), h2⟩
    exact Ev.here
  · obtain ⟨m, hm⟩ : ∃ m, m = t.extract 0 262144 := ⟨_, rfl⟩
    have hL : L8 m = (L8 t).take 262144 := by rw [hm]; exact extract_len t 262144 (by omega)
    have hml : (L8 m).length = 262144 := by rw [hL, List.length_take]; omega
    obtain ⟨r, h1, h2⟩ := read_ev m (by omega)
    have hsplit : RS.new.feed (L8 t) = (RS.new.feed (L8 m)).feed ((L8 t).drop 262144) := by
      rw [hL, ← feed_app, List.take_append_drop]
    have top : ∀ {b : Bool} {r' : Txt}, Ev (fun k => larderref04_shows.f k m r.2.2.1 r.2.2.2.1 r.2.2.2.2.1 r.2.2.2.2.2.1 r.2.2.2.2.2.2) b →
        Ev (fun k => (if b = true then (some (r.1, r.2.1, r.2.2.1, r.2.2.2.1, r.2.2.2.2.1, r.2.2.2.2.2.1, r.2.2.2.2.2.2)) else (if 0 ≤ r.2.1 then (if r.2.1 ≤ (r.1.length : Int) then ((larderref04_placed.f k t 20 262144).bind fun bt280125 => (some ((r.1.take (r.2.1 : Int).toNat), r.2.1, bt280125.1, bt280125.2.1, bt280125.2.2.1, bt280125.2.2.2.1, bt280125.2.2.2.2))) else (none)) else (none)))) r' → Ev (fun k => larderref04_Read.f k t) r' := by
      intro b r' e1 e2
      refine Ev.of (fun k => rfl) (Ev.neg (by omega) (Ev.pos (by decide) (Ev.pos (by omega) ?_)))
      rw [← hm]
      exact Ev.bind h1 (Ev.bind e1 e2)
    have hplc : ∀ (c : Int) (q : Nat), q ≤ 262144 → plc m c q = plc t c q := by
      intro c q hq
      unfold plc
      rw [hL, List.take_take, Nat.min_eq_left hq]
    -- the text goes on where no fault shows
    have long : (RS.new.feed (L8 m)).fault = none → (RS.new.feed (L8 t)).fault = some ((lc ((L8 t).take 262144)).1, (lc ((L8 t).take 262144)).2, 20) ∧ (RS.new.feed (L8 t)).rows = (RS.new.feed (L8 m)).rows := by
      intro hf
      obtain ⟨k1, k2⟩ := feed_pos (L8 m) RS.new rfl hf
      have k1' : (RS.new.feed (L8 m)).all = 262144 := by rw [k1, hml]; rfl
      have e : RS.new.feed (L8 t) = (RS.new.feed (L8 m)).fail (RS.new.feed (L8 m)).line (RS.new.feed (L8 m)).col 20 := by
        rw [hsplit, List.drop_eq_getElem_cons (by omega), feed_cons hf, RS.step, if_pos k1']
        exact feed_stop (by intro e; cases e) _
      refine ⟨?_, by rw [e]; rfl⟩
      rw [e]
      show some (RS.line _, RS.col _, 20) = _
      have k3 : ((RS.new.feed (L8 m)).line, (RS.new.feed (L8 m)).col) = lc ((L8 t).take 262144) := by rw [← hL]; exact k2
      rw [← k3]
    have hpe : Ev (fun k => larderref04_placed.f k t 20 262144) (plc t 20 262144) := placed_ev t 20 262144 (by omega) hl
    rcases h2 with ⟨rows, c, q, hc, rfl, hbad⟩ | ⟨rows, n, rfl, hf1, hf2, hf3, hf4, hn⟩
    · have hq : q ≤ 262144 := by have := hbad.1; omega
      have hsh := shows_bad m rows c q hc (by omega) hbad
      by_cases hf : (RS.new.feed (L8 m)).fault = none
      · have hb : (RS.new.feed (L8 m)).fault.isSome = false := by rw [hf]; rfl
        rw [hb] at hsh
        obtain ⟨g1, g2⟩ := long hf
        refine ⟨badT t rows 20 262144, top hsh (Ev.neg (by decide) (Ev.pos (show (0 : Int) ≤ (rows.length : Int) by omega) (Ev.pos (show (rows.length : Int) ≤ ((rws rows).length : Int) by rw [rws_len]; omega) (Ev.bind hpe (Ev.const ?_))))), .inl ⟨rows, 20, 262144, by omega, rfl, by omega, by rw [g2]; exact hbad.2.1, .inl ⟨g1, by omega, by omega, by omega, by omega⟩⟩⟩
        show some ((rws rows).take ((rows.length : Int)).toNat, _) = _
        rw [show ((rows.length : Int)).toNat = rows.length by simp, ← rws_len, List.take_length]
        rfl
      · have hb : (RS.new.feed (L8 m)).fault.isSome = true := by
          cases hz : (RS.new.feed (L8 m)).fault with
          | none => exact absurd hz hf
          | some f => rfl
        rw [hb] at hsh
        have hfe : RS.new.feed (L8 t) = RS.new.feed (L8 m) := by rw [hsplit, feed_stop hf]
        refine ⟨_, top hsh (Ev.pos rfl Ev.here), .inl ⟨rows, c, q, hc, ?_, by omega, by rw [hfe]; exact hbad.2.1, .inl ?_⟩⟩
        · show (rws rows, (rows.length : Int), plc m c q) = (rws rows, (rows.length : Int), plc t c q)
          rw [hplc _ _ hq]
        · rcases hbad.2.2 with ⟨a1, a2, a3, a4, a5⟩ | ⟨a1, _⟩
          · refine ⟨?_, a2, a3, fun e => ?_, fun e => ?_⟩
            · rw [hfe, a1, hL, List.take_take, Nat.min_eq_left hq]
            · rcases a4 e with ⟨hh, hx⟩ | hh
              · refine .inl ⟨by omega, ?_⟩
                have : (L8 m)[q] = (L8 t)[q]'(by omega) := by simp only [hL, List.getElem_take]
                rw [← this]; exact hx
              · exact .inr (by omega)
            · have := a5 e; omega
          · exact absurd a1 hf
    · obtain ⟨g1, g2⟩ := long hf1
      refine ⟨badT t (rows.take n) 20 262144, top (shows_ok m) (Ev.neg (by decide) (Ev.pos (show (0 : Int) ≤ (n : Int) by omega) (Ev.pos (show (n : Int) ≤ ((rws rows).length : Int) by rw [rws_len]; omega) (Ev.bind hpe (Ev.const ?_))))), .inl ⟨rows.take n, 20, 262144, by omega, rfl, by omega, by rw [g2]; exact hf4, .inl ⟨g1, by omega, by omega, by omega, by omega⟩⟩⟩
      show some ((rws rows).take ((n : Int)).toNat, (n : Int), _) = some (rws (rows.take n), ((rows.take n).length : Int), _)
      have e1 : (rws rows).take n = rws (rows.take n) := by simp [rws]
      rw [show ((n : Int)).toNat = n by simp, e1, List.length_take, Nat.min_eq_left hn]
      rfl
/-- what the reference's Parse tells, by the machine's answer -/
def PR (o : Rows × Option (Nat × Nat × Nat)) (r : (List (List ByteArray)) × Int × Int × Int × Int × Int) : Prop :=
  (o.2 = none ∧ r = (rws o.1, 0, 0, 0, 0, 0)) ∨ (∃ (l c e : Nat) (q : Int), o.2 = some (l, c, e) ∧ o.1 = [] ∧ e ≠ 0 ∧ l ≤ 4611686018427387904 ∧ c ≤ 4611686018427387904 ∧ r = ([], (e : Int), (l : Int), (c : Int), q, 0))
theorem parseRef (hl : (L8 t).length ≤ 140737488355328) : ∃ r, Ev (fun k => larderref04_Parse.f k t) r ∧ PR (parseO (L8 t)) r := by
  obtain ⟨r, h1, h2⟩ := Read_ev t hl
  obtain ⟨f1, f2⟩ := fin_told (RS.new.feed (L8 t))
  rcases h2 with ⟨rows, c, q, hc, rfl, hq, hrow, hb⟩ | ⟨rows, n, rfl, hf1, hf2, hf3, hf4, hn⟩
  · have hbd := lc_bd ((L8 t).take q)
    have hlt : ((L8 t).take q).length ≤ (L8 t).length := by rw [List.length_take]; omega
    refine ⟨_, Ev.of (fun k => rfl) (Ev.bind h1 (Ev.neg (show ¬ (c : Int) = 0 by omega) Ev.here)), .inr ⟨(lc ((L8 t).take q)).1, (lc ((L8 t).take q)).2, c, (q : Int), ?_, ?_, hc, by omega, by omega, rfl⟩⟩
    · rcases hb with ⟨a1, _⟩ | ⟨a1, a2, _⟩
      · unfold parseO
        rw [if_pos (by rw [a1]; simp)]
        exact a1
      · unfold parseO
        rw [if_neg (by rw [a1]; simp), if_pos (by rw [f1, a2]; simp)]
        exact f1.trans a2
    · rcases hb with ⟨a1, _⟩ | ⟨a1, a2, _⟩
      · unfold parseO
        rw [if_pos (by rw [a1]; simp)]
      · unfold parseO
        rw [if_neg (by rw [a1]; simp), if_pos (by rw [f1, a2]; simp)]
  · refine ⟨_, Ev.of (fun k => rfl) (Ev.bind h1 (Ev.pos rfl Ev.here)), .inl ⟨?_, ?_⟩⟩
    · unfold parseO
      rw [if_neg (by rw [hf1]; simp), if_neg (by rw [f1, hf2]; simp)]
    · have e : (parseO (L8 t)).1 = rows := by
        unfold parseO
        rw [if_neg (by rw [hf1]; simp), if_neg (by rw [f1, hf2]; simp)]
        rw [← hf3]
        exact (f2 hf2).symm
      rw [e]
end Go.Proofs.YtinjlpodcabfaaaDoor.Sht
