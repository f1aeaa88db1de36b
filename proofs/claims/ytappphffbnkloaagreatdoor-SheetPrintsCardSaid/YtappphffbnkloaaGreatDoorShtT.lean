/- The reference's cells and rows are the machine's. -/
import Derived.Test.YtappphffbnkloaaGreatDoorShtS
set_option linter.unusedVariables false
set_option linter.unusedSimpArgs false
namespace Go.Proofs.YtappphffbnkloaaGreatDoor.Sht
open Go Go.RowKit Go.Proofs.YtappphffbnkloaaGreatDoorW.PrintWords Go.Proofs.YtappphffbnkloaaGreatDoor.GS
variable (t : ByteArray)
/-- a cell may begin here -/
def Beg (s : RS) (p : Nat) : Prop := s.md = .start ∨ (s.md = .fresh ∧ s.count ≠ 4096 ∧ p < (L8 t).length)
/-- a cell may end here -/
def Cd (s : RS) (q : Nat) : Prop := s.md = .closed ∨ s.md = .plain ∨ s.md = .start ∨ (s.md = .fresh ∧ s.count ≠ 4096 ∧ q < (L8 t).length)
theorem next_beg {s : RS} {p : Nat} (h : Beg t s p) (x : UInt8) : RS.next (up s) x = RS.start (up s) x := by
  rcases h with h | ⟨h, h2, _⟩
  · have : (up s).md = .start := h
    rw [RS.next, this]
  · have : (up s).md = .fresh := h
    rw [RS.next, this]
    show RS.fresh (up s) x = _
    rw [RS.fresh, if_neg (show ¬ (up s).count = 4096 from h2)]
theorem comma_turn (s : RS) (m : Md) : (s.turn m).comma = s.comma := by
  unfold RS.comma
  by_cases h : s.endCell.row.length = 64
  · rw [if_pos h, if_pos (show (s.turn m).endCell.row.length = 64 from h)]; rfl
  · rw [if_neg h, if_neg (show ¬ (s.turn m).endCell.row.length = 64 from h)]; rfl
theorem next_comma {s : RS} {q : Nat} (h : Cd t s q) (x : UInt8) (hx : x = 44) : RS.next (up s) x = (up s).comma := by
  rcases h with h | h | h | h
  · have : (up s).md = .closed := h
    rw [RS.next, this]
    show RS.closed (up s) x = _
    rw [RS.closed, if_neg (by rw [hx]; decide), if_pos hx]
  · have : (up s).md = .plain := h
    rw [RS.next, this]
    show RS.plain (up s) x = _
    rw [RS.plain, if_pos hx]
  · rw [next_beg t (p := q) (.inl h), RS.start, if_neg (by rw [hx]; decide)]
    rw [RS.plain, if_pos hx, comma_turn]
  · rw [next_beg t (p := q) (.inr h), RS.start, if_neg (by rw [hx]; decide)]
    rw [RS.plain, if_pos hx, comma_turn]
theorem next_cr {s : RS} {q : Nat} (h : Cd t s q) (x : UInt8) (hx : x = 13) : RS.next (up s) x = (up s).cr := by
  rcases h with h | h | h | h
  · have : (up s).md = .closed := h
    rw [RS.next, this]
    show RS.closed (up s) x = _
    rw [RS.closed, if_neg (by rw [hx]; decide), if_neg (by rw [hx]; decide), if_pos hx]
  · have : (up s).md = .plain := h
    rw [RS.next, this]
    show RS.plain (up s) x = _
    rw [RS.plain, if_neg (by rw [hx]; decide), if_pos hx]
  · rw [next_beg t (p := q) (.inl h), RS.start, if_neg (by rw [hx]; decide)]
    rw [RS.plain, if_neg (by rw [hx]; decide), if_pos hx]; rfl
  · rw [next_beg t (p := q) (.inr h), RS.start, if_neg (by rw [hx]; decide)]
    rw [RS.plain, if_neg (by rw [hx]; decide), if_pos hx]; rfl
/-- what a cell comes to -/
def CR (s : RS) (p : Nat) (r : Q7) : Prop :=
  (∃ text q s', r = okQ text q ∧ Reach t s' q ∧ Sm s s' ∧ Cd t s' q ∧ s'.cell = text ∧ text.length ≤ 4096 ∧ p ≤ q ∧ (q = (L8 t).length ∨ ∃ h : q < (L8 t).length, (L8 t)[q] = 44 ∨ (L8 t)[q] = 13)) ∨
  (∃ c q, c ≠ 0 ∧ r = badQ t c q ∧ Bad t s.rows c q)
theorem CR.of {s s' : RS} {p p' : Nat} {r : Q7} (h : CR t s' p' r) (k : Sm s s') (hp : p ≤ p') : CR t s p r := by
  rcases h with ⟨text, q, s2, h1, h2, h3, h4, h5, h6, h7, h8⟩ | ⟨c, q, h1, h2, h3⟩
  · exact .inl ⟨text, q, s2, h1, h2, k.trans h3, h4, h5, h6, by omega, h8⟩
  · exact .inr ⟨c, q, h1, h2, by rw [← k.rows]; exact h3⟩
theorem extract_tx (p q : Nat) (hpq : p ≤ q) (hq : q ≤ (L8 t).length) : t.extract ((p : Int)).toNat ((q : Int)).toNat = tx (((L8 t).take q).drop p) := by
  have e1 : ((p : Int)).toNat = p := by simp
  have e2 : ((q : Int)).toNat = q := by simp
  rw [e1, e2]
  have hd : (t.extract p q).data = t.data.extract p q := by simp
  have : t.extract p q = ⟨t.data.extract p q⟩ := by rw [← hd]
  rw [this, tx]
  congr 1
  apply Array.ext'
  simp [List.take_drop, Nat.add_sub_cancel' hpq]
theorem plain_l (hn : (L8 t).length ≤ 262144) (fr : Nat) : ∀ (d q : Nat) (s : RS), (L8 t).length - q = d → Reach t s q → fr ≤ q → q - fr ≤ 4096 → s.cell = ((L8 t).take q).drop fr → (s.md = .plain ∨ (Beg t s q ∧ ∀ h : q < (L8 t).length, (L8 t)[q] ≠ 34)) →
    ∃ r, Ev (fun k => larderref04_cell.l0 k t fr q) r ∧ CR t s q r := by
  intro d
  induction d with
  | zero =>
    intro q s hd hr hfq hl hc hm
    have hsz := L8_len t
    have hq : q = (L8 t).length := by have := hr.le; omega
    have hcd : Cd t s q := by
      rcases hm with h | ⟨h | h, _⟩
      · exact .inr (.inl h)
      · exact .inr (.inr (.inl h))
      · exact .inr (.inr (.inr h))
    refine ⟨okQ (((L8 t).take q).drop fr) q, ?_, .inl ⟨_, q, s, rfl, hr, Sm.refl s, hcd, hc, by simp; omega, Nat.le_refl _, .inl hq⟩⟩
    refine Ev.succ (fun k => larderref04_cell.l0.eq_2 ..) (Ev.neg (by omega) (Ev.succ (fun k => larderref04_cell.j3.eq_2 ..) (Ev.neg (by decide) (Ev.pos (by omega) (Ev.pos (by omega) (Ev.pos (by omega) ?_))))))
    rw [extract_tx t fr q hfq hr.le]
    exact Ev.here
  | succ d ih =>
    intro q s hd hr hfq hl hc hm
    have hsz := L8_len t
    have hq : q < (L8 t).length := by omega
    have hcd : Cd t s q := by
      rcases hm with h | ⟨h | h, _⟩
      · exact .inr (.inl h)
      · exact .inr (.inr (.inl h))
      · exact .inr (.inr (.inr h))
    have hnx : (L8 t)[q] ≠ 34 ∨ s.md = .plain := by
      rcases hm with h | ⟨_, h⟩
      · exact .inr h
      · exact .inl (h hq)
    have hnext : RS.next (up s) (L8 t)[q] = ((up s).turn .plain).plain (L8 t)[q] := by
      rcases hm with h | ⟨h, h2⟩
      · have h' : (up s).md = .plain := h
        have e2 : (up s).turn .plain = up s := by
          have : s.turn .plain = s := by rw [RS.turn, ← h]
          show up (s.turn .plain) = up s
          rw [this]
        rw [RS.next, h', e2]
      · rw [next_beg t h, RS.start, if_neg (h2 hq)]
    have done : ((L8 t)[q] = 44 ∨ (L8 t)[q] = 13) → ∃ r, Ev (fun k => larderref04_cell.l0 k t fr q) r ∧ CR t s q r := by
      intro hx
      refine ⟨okQ (((L8 t).take q).drop fr) q, ?_, .inl ⟨_, q, s, rfl, hr, Sm.refl s, hcd, hc, by simp; omega, Nat.le_refl _, .inr ⟨hq, hx⟩⟩⟩
      refine Ev.succ (fun k => larderref04_cell.l0.eq_2 ..) (Ev.pos (by omega) (Ev.pos (by omega) ?_))
      have tail : Ev (fun k => larderref04_cell.j3 k t fr q false) (okQ (((L8 t).take q).drop fr) q) := by
        refine Ev.succ (fun k => larderref04_cell.j3.eq_2 ..) (Ev.neg (by decide) (Ev.pos (by omega) (Ev.pos (by omega) (Ev.pos (by omega) ?_))))
        rw [extract_tx t fr q hfq hr.le]
        exact Ev.here
      by_cases h44 : (L8 t)[q] = 44
      · exact Ev.pos ((bt_is t q hq 44).2 h44) tail
      · refine Ev.neg (fun e => h44 ((bt_is t q hq 44).1 e)) ?_
        have h13 : (L8 t)[q] = 13 := by rcases hx with h | h; exact absurd h h44; exact h
        have e : (bt t (q : Int) != 13) = false := by rw [(bt_is t q hq 13).2 h13]; rfl
        rw [e]
        exact tail
    by_cases h44 : (L8 t)[q] = 44
    · exact done (.inl h44)
    by_cases h13 : (L8 t)[q] = 13
    · exact done (.inr h13)
    have go : ∀ {r : Q7}, Ev (fun k => (if (bt t (q : Int)) = 10 then ((larderref04_placed.f k t 3 q).bind fun bt600120 => (some ((⟨#[]⟩ : ByteArray), 0, bt600120.1, bt600120.2.1, bt600120.2.2.1, bt600120.2.2.2.1, bt600120.2.2.2.2))) else (if (bt t (q : Int)) = 34 then ((larderref04_placed.f k t 2 q).bind fun bt600125 => (some ((⟨#[]⟩ : ByteArray), 0, bt600125.1, bt600125.2.1, bt600125.2.2.1, bt600125.2.2.2.1, bt600125.2.2.2.2))) else (if (bt t (q : Int)) = 9 then (larderref04_cell.j4 k t fr q true) else ((larderref04_may.f (bt t (q : Int))).bind fun t600130 => (larderref04_cell.j4 k t fr q (!t600130))))))) r → Ev (fun k => larderref04_cell.l0 k t fr q) r := by
      intro r h
      refine Ev.succ (fun k => larderref04_cell.l0.eq_2 ..) (Ev.pos (by omega) (Ev.pos (by omega) (Ev.neg (fun e => h44 ((bt_is t q hq 44).1 e)) ?_)))
      have e : (bt t (q : Int) != 13) = true := by
        rw [bne, Bool.not_eq_true', beq_eq_false_iff_ne]
        exact fun e => h13 ((bt_is t q hq 13).1 e)
      rw [e]
      exact Ev.succ (fun k => larderref04_cell.j3.eq_2 ..) (Ev.pos rfl (Ev.pos (by omega) (Ev.pos (by omega) h)))
    by_cases h10 : (L8 t)[q] = 10
    · refine ⟨badQ t 3 q, go (Ev.pos ((bt_is t q hq 10).2 h10) (Ev.bind (placed_ev t 3 q hr.le (by omega)) Ev.here)), .inr ⟨3, q, by omega, rfl, bad_at t (s1 := (up s).turn .plain) hr hq hn ?_ rfl ⟨by omega, by omega, fun _ => h10⟩⟩⟩
      rw [hnext, RS.plain, if_neg h44, if_neg h13, if_pos h10]; rfl
    by_cases h34 : (L8 t)[q] = 34
    · refine ⟨badQ t 2 q, go (Ev.neg (fun e => h10 ((bt_is t q hq 10).1 e)) (Ev.pos ((bt_is t q hq 34).2 h34) (Ev.bind (placed_ev t 2 q hr.le (by omega)) Ev.here))), .inr ⟨2, q, by omega, rfl, bad_at t (s1 := (up s).turn .plain) hr hq hn ?_ rfl ⟨by omega, by omega, by omega⟩⟩⟩
      rw [hnext, RS.plain, if_neg h44, if_neg h13, if_neg h10, if_pos h34]; rfl
    have bad4 : ((L8 t)[q] = 9 ∨ okB (L8 t)[q] = false) → Bad t s.rows 4 q := fun h => bad_at t (s1 := (up s).turn .plain) hr hq hn (by rw [hnext, RS.plain, if_neg h44, if_neg h13, if_neg h10, if_neg h34, if_pos h]; rfl) rfl ⟨by omega, by omega, by omega⟩
    have j4t : Ev (fun k => larderref04_cell.j4 k t fr q true) (badQ t 4 q) := Ev.succ (fun k => larderref04_cell.j4.eq_2 ..) (Ev.pos rfl (Ev.bind (placed_ev t 4 q hr.le (by omega)) Ev.here))
    by_cases h9 : (L8 t)[q] = 9
    · exact ⟨badQ t 4 q, go (Ev.neg (fun e => h10 ((bt_is t q hq 10).1 e)) (Ev.neg (fun e => h34 ((bt_is t q hq 34).1 e)) (Ev.pos ((bt_is t q hq 9).2 h9) j4t))), .inr ⟨4, q, by omega, rfl, bad4 (.inl h9)⟩⟩
    by_cases hk : okB (L8 t)[q] = false
    · refine ⟨badQ t 4 q, go (Ev.neg (fun e => h10 ((bt_is t q hq 10).1 e)) (Ev.neg (fun e => h34 ((bt_is t q hq 34).1 e)) (Ev.neg (fun e => h9 ((bt_is t q hq 9).1 e)) (Ev.bind1 (may_eq t q hq) ?_)))), .inr ⟨4, q, by omega, rfl, bad4 (.inr hk)⟩⟩
      rw [hk]
      exact j4t
    have hkt : okB (L8 t)[q] = true := by simpa using hk
    have e3 : RS.next (up s) (L8 t)[q] = ((up s).turn .plain).put (L8 t)[q] := by
      rw [hnext, RS.plain, if_neg h44, if_neg h13, if_neg h10, if_neg h34, if_neg (by simp only [h9, hk]; decide)]
    have hcl : s.cell.length = q - fr := by rw [hc]; simp; omega
    have go2 : ∀ {r : Q7}, Ev (fun k => (if (wrap64 ((q : Int) - fr)) = 4096 then ((larderref04_placed.f k t 5 q).bind fun bt600136 => (some ((⟨#[]⟩ : ByteArray), 0, bt600136.1, bt600136.2.1, bt600136.2.2.1, bt600136.2.2.2.1, bt600136.2.2.2.2))) else (larderref04_cell.l0 k t fr (wrap64 ((q : Int) + 1))))) r → Ev (fun k => larderref04_cell.l0 k t fr q) r := by
      intro r h
      refine go (Ev.neg (fun e => h10 ((bt_is t q hq 10).1 e)) (Ev.neg (fun e => h34 ((bt_is t q hq 34).1 e)) (Ev.neg (fun e => h9 ((bt_is t q hq 9).1 e)) (Ev.bind1 (may_eq t q hq) ?_))))
      rw [hkt]
      exact Ev.succ (fun k => larderref04_cell.j4.eq_2 ..) (Ev.neg (by decide) h)
    have wd : wrap64 ((q : Int) - fr) = ((q - fr : Nat) : Int) := by unfold wrap64; omega
    by_cases h4 : q - fr = 4096
    · refine ⟨badQ t 5 q, go2 (Ev.pos (by rw [wd]; omega) (Ev.bind (placed_ev t 5 q hr.le (by omega)) Ev.here)), .inr ⟨5, q, by omega, rfl, bad_at t (s1 := { (up s).turn .plain with cell := s.cell ++ [(L8 t)[q]] }) hr hq hn ?_ rfl ⟨by omega, by omega, by omega⟩⟩⟩
      rw [e3, RS.put, if_pos (by show 4096 < (s.cell ++ [(L8 t)[q]]).length; simp; omega)]; rfl
    · have e4 : RS.next (up s) (L8 t)[q] = { (up s).turn .plain with cell := s.cell ++ [(L8 t)[q]] } := by
        rw [e3, RS.put, if_neg (by show ¬ 4096 < (s.cell ++ [(L8 t)[q]]).length; simp; omega)]; rfl
      have hs := (reach_step t hr hq hn).1 (by rw [e4]; exact hr.ok)
      rw [e4] at hs
      obtain ⟨o1, o2, o3, o4, o5⟩ := on_same { (up s).turn .plain with cell := s.cell ++ [(L8 t)[q]] } (L8 t)[q]
      obtain ⟨r, h1, h2⟩ := ih (q + 1) _ (by omega) hs (by omega) (by omega) (by
        rw [o3]
        show s.cell ++ [(L8 t)[q]] = _
        rw [hc, take_snoc hq, List.drop_append_of_le_length (by simp; omega)]) (.inl o2)
      refine ⟨r, go2 (Ev.neg (by rw [wd]; omega) ?_), h2.of t (Sm.trans (b := { (up s).turn .plain with cell := s.cell ++ [(L8 t)[q]] }) ⟨rfl, rfl, rfl, rfl⟩ o1) (by omega)⟩
      rw [w1 _ (by omega)]
      exact h1
theorem cell_ev (hn : (L8 t).length ≤ 262144) (p : Nat) (s : RS) (hr : Reach t s p) (hb : Beg t s p) (hc : s.cell = []) : ∃ r, Ev (fun k => larderref04_cell.f k t p) r ∧ CR t s p r := by
  have hsz := L8_len t
  by_cases hq : p < (L8 t).length ∧ ∃ h : p < (L8 t).length, (L8 t)[p] = 34
  · obtain ⟨hp, _, hx⟩ := hq
    have e : RS.next (up s) (L8 t)[p] = (up s).mark.turn .quoted := by rw [next_beg t hb, RS.start, if_pos hx]
    have hs := (reach_step t hr hp hn).1 (by rw [e]; exact hr.ok)
    rw [e] at hs
    obtain ⟨o1, o2, o3, o4, o5⟩ := on_same ((up s).mark.turn .quoted) (L8 t)[p]
    have sm : Sm s (((up s).mark.turn .quoted).on (L8 t)[p]) := Sm.trans (b := (up s).mark.turn .quoted) ⟨rfl, rfl, rfl, rfl⟩ o1
    obtain ⟨r, hr1, hr2⟩ := quoted_l t hn p (Nat.le_of_lt hp) _ (p + 1) _ [] rfl hs o2 (o3.trans hc) (by simp) ((Prod.ext (show _ = s.line from o4) (show _ = s.col from o5)).trans hr.pos)
    have hqf : Ev (fun k => larderref04_quoted.f k t p) r := by
      refine Ev.of (fun k => ?_) hr1
      show larderref04_quoted.l0 k t p ([] : List Int) (wrap64 ((p : Int) + 1)) = _
      rw [w1 _ (by omega)]; rfl
    have top : ∀ {r' : Q7}, Ev (fun k => (if r.2.2.1 = 0 then (if r.2.1 = (t.size : Int) then (larderref04_cell.j1 k t r.1 r.2.1 true r.2.2.1 r.2.2.2.1 r.2.2.2.2.1 r.2.2.2.2.2.1 r.2.2.2.2.2.2) else (if 0 ≤ r.2.1 then (if r.2.1 < (t.size : Int) then (if (bt t r.2.1) = 44 then (larderref04_cell.j1 k t r.1 r.2.1 true r.2.2.1 r.2.2.2.1 r.2.2.2.2.1 r.2.2.2.2.2.1 r.2.2.2.2.2.2) else (larderref04_cell.j1 k t r.1 r.2.1 ((bt t r.2.1) == 13) r.2.2.1 r.2.2.2.1 r.2.2.2.2.1 r.2.2.2.2.2.1 r.2.2.2.2.2.2)) else (none)) else (none))) else (larderref04_cell.j1 k t r.1 r.2.1 true r.2.2.1 r.2.2.2.1 r.2.2.2.2.1 r.2.2.2.2.2.1 r.2.2.2.2.2.2))) r' → Ev (fun k => larderref04_cell.f k t p) r' := by
      intro r' h
      refine Ev.of (fun k => rfl) (Ev.pos (by omega) (Ev.pos (by omega) ?_))
      have e2 : (bt t (p : Int) == 34) = true := by rw [(bt_is t p hp 34).2 hx]; rfl
      rw [e2]
      exact Ev.succ (fun k => larderref04_cell.j0.eq_2 ..) (Ev.pos rfl (Ev.bind hqf h))
    rcases hr2 with ⟨text, q, s2, rfl, hr2, sm2, m2, hc2, hl2, hpq, hend⟩ | ⟨c, q, hc0, rfl, hbad⟩
    · have fin : Ev (fun k => larderref04_cell.j1 k t (tx text) (q : Int) true 0 0 0 0 0) (okQ text q) := Ev.succ (fun k => larderref04_cell.j1.eq_2 ..) (Ev.pos rfl Ev.here)
      have hcd : Cd t s2 q := .inl m2
      by_cases hql : q < (L8 t).length
      · have hne : (L8 t)[q] ≠ 34 := by
          rcases hend with h | ⟨_, h⟩
          · omega
          · exact h
        by_cases h44 : (L8 t)[q] = 44
        · exact ⟨okQ text q, top (Ev.pos rfl (Ev.neg (by show ¬ (q : Int) = _; omega) (Ev.pos (by show (0 : Int) ≤ q; omega) (Ev.pos (by show (q : Int) < _; omega) (Ev.pos ((bt_is t q hql 44).2 h44) fin))))), .inl ⟨text, q, s2, rfl, hr2, sm.trans sm2, hcd, hc2, hl2, by omega, .inr ⟨hql, .inl h44⟩⟩⟩
        · by_cases h13 : (L8 t)[q] = 13
          · refine ⟨okQ text q, top (Ev.pos rfl (Ev.neg (by show ¬ (q : Int) = _; omega) (Ev.pos (by show (0 : Int) ≤ q; omega) (Ev.pos (by show (q : Int) < _; omega) (Ev.neg (fun e => h44 ((bt_is t q hql 44).1 e)) ?_))))), .inl ⟨text, q, s2, rfl, hr2, sm.trans sm2, hcd, hc2, hl2, by omega, .inr ⟨hql, .inr h13⟩⟩⟩
            have e2 : (bt t (okQ text q).2.1 == 13) = true := by show (bt t (q : Int) == 13) = true; rw [(bt_is t q hql 13).2 h13]; rfl
            rw [e2]
            exact fin
          · have go : ∀ {r' : Q7}, Ev (fun k => (if (bt t (q : Int)) = 10 then ((larderref04_placed.f k t 3 q).bind fun bt600110 => (some ((⟨#[]⟩ : ByteArray), 0, bt600110.1, bt600110.2.1, bt600110.2.2.1, bt600110.2.2.2.1, bt600110.2.2.2.2))) else ((larderref04_placed.f k t 2 q).bind fun bt600115 => (some ((⟨#[]⟩ : ByteArray), 0, bt600115.1, bt600115.2.1, bt600115.2.2.1, bt600115.2.2.2.1, bt600115.2.2.2.2))))) r' → Ev (fun k => larderref04_cell.f k t p) r' := by
              intro r' h
              refine top (Ev.pos rfl (Ev.neg (by show ¬ (q : Int) = _; omega) (Ev.pos (by show (0 : Int) ≤ q; omega) (Ev.pos (by show (q : Int) < _; omega) (Ev.neg (fun e => h44 ((bt_is t q hql 44).1 e)) ?_)))))
              have e2 : (bt t (okQ text q).2.1 == 13) = false := by
                show (bt t (q : Int) == 13) = false
                rw [beq_eq_false_iff_ne]
                exact fun e => h13 ((bt_is t q hql 13).1 e)
              rw [e2]
              exact Ev.succ (fun k => larderref04_cell.j1.eq_2 ..) (Ev.neg (by decide) (Ev.pos (by show (0 : Int) ≤ q; omega) (Ev.pos (by show (q : Int) < _; omega) h)))
            have hnx : RS.next (up s2) (L8 t)[q] = RS.closed (up s2) (L8 t)[q] := by
              have : (up s2).md = .closed := m2
              rw [RS.next, this]
            have hrows : s2.rows = s.rows := (sm.trans sm2).rows
            by_cases h10 : (L8 t)[q] = 10
            · refine ⟨badQ t 3 q, go (Ev.pos ((bt_is t q hql 10).2 h10) (Ev.bind (placed_ev t 3 q hr2.le (by omega)) Ev.here)), .inr ⟨3, q, by omega, rfl, ?_⟩⟩
              rw [← hrows]
              exact bad_at t (s1 := up s2) hr2 hql hn (by rw [hnx, RS.closed, if_neg hne, if_neg h44, if_neg h13, if_pos h10]; rfl) rfl ⟨by omega, by omega, fun _ => h10⟩
            · refine ⟨badQ t 2 q, go (Ev.neg (fun e => h10 ((bt_is t q hql 10).1 e)) (Ev.bind (placed_ev t 2 q hr2.le (by omega)) Ev.here)), .inr ⟨2, q, by omega, rfl, ?_⟩⟩
              rw [← hrows]
              exact bad_at t (s1 := up s2) hr2 hql hn (by rw [hnx, RS.closed, if_neg hne, if_neg h44, if_neg h13, if_neg h10]; rfl) rfl ⟨by omega, by omega, by omega⟩
      · have hq : q = (L8 t).length := by have := hr2.le; omega
        exact ⟨okQ text q, top (Ev.pos rfl (Ev.pos (by show (q : Int) = _; omega) fin)), .inl ⟨text, q, s2, rfl, hr2, sm.trans sm2, hcd, hc2, hl2, by omega, .inl hq⟩⟩
    · refine ⟨badQ t c q, top (Ev.neg (by show ¬ (c : Int) = 0; omega) (Ev.succ (fun k => larderref04_cell.j1.eq_2 ..) (Ev.pos rfl Ev.here))), .inr ⟨c, q, hc0, rfl, ?_⟩⟩
      rw [← sm.rows]
      exact hbad
  · have hx : ∀ h : p < (L8 t).length, (L8 t)[p] ≠ 34 := fun h e => hq ⟨h, h, e⟩
    obtain ⟨r, h1, h2⟩ := plain_l t hn p _ p s rfl hr (Nat.le_refl _) (by omega) (by rw [hc]; simp) (.inr ⟨hb, hx⟩)
    refine ⟨r, ?_, h2⟩
    have tail : Ev (fun k => larderref04_cell.j0 k t p false) r := Ev.succ (fun k => larderref04_cell.j0.eq_2 ..) (Ev.neg (by decide) h1)
    by_cases hp : p < (L8 t).length
    · refine Ev.of (fun k => rfl) (Ev.pos (by omega) (Ev.pos (by omega) ?_))
      have e2 : (bt t (p : Int) == 34) = false := by
        rw [beq_eq_false_iff_ne]
        exact fun e => hx hp ((bt_is t p hp 34).1 e)
      rw [e2]
      exact tail
    · exact Ev.of (fun k => rfl) (Ev.neg (by omega) tail)
end Go.Proofs.YtappphffbnkloaaGreatDoor.Sht
