/- The reference's cells are the machine's. -/
import Derived.Test.YtappphffbnkloaaGreatDoorShtR
set_option linter.unusedVariables false
set_option linter.unusedSimpArgs false
namespace Go.Proofs.YtappphffbnkloaaGreatDoor.Sht
open Go Go.RowKit Go.Proofs.YtappphffbnkloaaGreatDoorW.PrintWords Go.Proofs.YtappphffbnkloaaGreatDoor.GS
variable (t : ByteArray)
def tx (l : List UInt8) : ByteArray := ⟨l.toArray⟩
def nums (l : List UInt8) : List Int := l.map fun x => (x.toNat : Int)
theorem nums_len (l : List UInt8) : (nums l).length = l.length := by simp [nums]
theorem nums_tx (l : List UInt8) : strOfNums (nums l) = tx l := by
  show (⟨((l.map fun x => (x.toNat : Int)).map fun n => UInt8.ofNat n.toNat).toArray⟩ : ByteArray) = ⟨l.toArray⟩
  rw [List.map_map, show ((fun n : Int => UInt8.ofNat n.toNat) ∘ fun x : UInt8 => (x.toNat : Int)) = id from funext fun x => by simp, List.map_id]
theorem nums_snoc (l : List UInt8) (p : Nat) (h : p < (L8 t).length) : nums l ++ [bt t (p : Int)] = nums (l ++ [(L8 t)[p]]) := by
  rw [bt_eq t p h]; simp [nums]
theorem may_eq (p : Nat) (h : p < (L8 t).length) : larderref04_may.f (bt t (p : Int)) = some (okB (L8 t)[p]) := by
  rw [bt_eq t p h]
  have e : ∀ k : UInt8, ((L8 t)[p] == k) = decide ((((L8 t)[p].toNat : Int)) = (k.toNat : Int)) := fun k => by
    rw [Bool.eq_iff_iff, beq_iff_eq, decide_eq_true_iff]
    exact ⟨fun h => by rw [h], fun h => UInt8.toNat_inj.1 (by omega)⟩
  have e1 : decide (32 ≤ (L8 t)[p]) = decide ((32 : Int) ≤ ((L8 t)[p].toNat : Int)) := by
    rw [Bool.eq_iff_iff, decide_eq_true_iff, decide_eq_true_iff, UInt8.le_iff_toNat_le]
    show 32 ≤ (L8 t)[p].toNat ↔ _
    omega
  unfold okB larderref04_may.f
  have eb : ((L8 t)[p] != 127) = !((L8 t)[p] == 127) := rfl
  rw [eb, e1, e 127, e 9, e 10, e 13]
  have c9 : ((9 : UInt8).toNat : Int) = 9 := rfl
  have c10 : ((10 : UInt8).toNat : Int) = 10 := rfl
  have c13 : ((13 : UInt8).toNat : Int) = 13 := rfl
  have c127 : ((127 : UInt8).toNat : Int) = 127 := rfl
  rw [c9, c10, c13, c127]
  generalize ((L8 t)[p].toNat : Int) = n
  by_cases h9 : n = 9
  · simp [h9]
  · by_cases h10 : n = 10
    · simp [h10]
    · by_cases h13 : n = 13
      · simp [h13]
      · by_cases h32 : (32 : Int) ≤ n
        · simp [h9, h10, h13, h32]
          exact Bool.eq_iff_iff.2 (by simp)
        · simp [h9, h10, h13, h32]
abbrev Q7 := ByteArray × Int × Int × Int × Int × Int × Int
def okQ (text : List UInt8) (q : Nat) : Q7 := (tx text, (q : Int), 0, 0, 0, 0, 0)
def badQ (c q : Nat) : Q7 := ((⟨#[]⟩ : ByteArray), 0, (plc t c q).1, (plc t c q).2.1, (plc t c q).2.2.1, (plc t c q).2.2.2.1, (plc t c q).2.2.2.2)
/-- what a quoted cell comes to -/
def QR (s : RS) (p : Nat) (r : Q7) : Prop :=
  (∃ text q s', r = okQ text q ∧ Reach t s' q ∧ Sm s s' ∧ s'.md = .closed ∧ s'.cell = text ∧ text.length ≤ 4096 ∧ p ≤ q ∧ (q = (L8 t).length ∨ ∃ h : q < (L8 t).length, (L8 t)[q] ≠ 34)) ∨
  (∃ c q, c ≠ 0 ∧ r = badQ t c q ∧ Bad t s.rows c q)
theorem QR.of {s s' : RS} {p p' : Nat} {r : Q7} (h : QR t s' p' r) (k : Sm s s') (hp : p ≤ p') : QR t s p r := by
  rcases h with ⟨text, q, s2, h1, h2, h3, h4, h5, h6, h7, h8⟩ | ⟨c, q, h1, h2, h3⟩
  · exact .inl ⟨text, q, s2, h1, h2, k.trans h3, h4, h5, h6, by omega, h8⟩
  · exact .inr ⟨c, q, h1, h2, by rw [← k.rows]; exact h3⟩
theorem quoted_l (hn : (L8 t).length ≤ 262144) (fr : Nat) (hfr : fr ≤ (L8 t).length) : ∀ (d p : Nat) (s : RS) (acc : List UInt8), (L8 t).length - p = d → Reach t s p → s.md = .quoted → s.cell = acc → acc.length ≤ 4096 → (s.ml, s.mc) = lc ((L8 t).take fr) →
    ∃ r, Ev (fun k => larderref04_quoted.l0 k t fr (nums acc) p) r ∧ QR t s p r := by
  intro d
  induction d using Nat.strongRecOn with
  | ind d ih =>
    have hsz := L8_len t
    -- a byte is laid into the cell
    have inner : ∀ (p : Nat) (s sx : RS) (acc : List UInt8), (L8 t).length - p ≤ d → Reach t s p → (hp : p < (L8 t).length) → okB (L8 t)[p] = true → RS.next (up s) (L8 t)[p] = sx.put (L8 t)[p] → sx.md = .quoted → sx.cell = acc → acc.length ≤ 4096 →
        Sm s sx → sx.line = s.line → sx.col = s.col → (sx.ml, sx.mc) = lc ((L8 t).take fr) → sx.fault = none → ∃ r, Ev (fun k => larderref04_quoted.j1 k t fr (nums acc) p) r ∧ QR t s p r := by
      intro p s sx acc hd hr hp hk e m1 m2 hl sm c1 c2 c3 c4
      have go : ∀ {r : Q7}, Ev (fun k => if (((nums acc).length : Nat) : Int) = 4096 then ((larderref04_placed.f k t 5 p).bind fun bt640108 => (some ((⟨#[]⟩ : ByteArray), 0, bt640108.1, bt640108.2.1, bt640108.2.2.1, bt640108.2.2.2.1, bt640108.2.2.2.2))) else (if (nums acc).length < 140737488355328 then (larderref04_quoted.l0 k t fr (nums acc ++ [bt t p]) (wrap64 (p + 1))) else (none))) r → Ev (fun k => larderref04_quoted.j1 k t fr (nums acc) p) r := by
        intro r h
        refine Ev.succ (fun k => larderref04_quoted.j1.eq_2 ..) (Ev.pos (by omega) (Ev.pos (by omega) (Ev.bind1 (may_eq t p hp) ?_)))
        rw [hk]
        exact Ev.pos rfl h
      by_cases h4 : acc.length = 4096
      · refine ⟨badQ t 5 p, go (Ev.pos (by rw [nums_len]; omega) (Ev.bind (placed_ev t 5 p (Nat.le_of_lt hp) (by omega)) Ev.here)), .inr ⟨5, p, by omega, rfl, ?_⟩⟩
        have e2 : RS.next (up s) (L8 t)[p] = RS.fail { sx with cell := sx.cell ++ [(L8 t)[p]] } s.line s.col 5 := by
          rw [e, RS.put, if_pos (by rw [m2]; simp; omega), c1, c2]
        exact bad_at t hr hp hn e2 sm.rows ⟨by omega, by omega, by omega⟩
      · have e2 : RS.next (up s) (L8 t)[p] = { sx with cell := sx.cell ++ [(L8 t)[p]] } := by rw [e, RS.put, if_neg (by rw [m2]; simp; omega)]
        have hs := (reach_step t hr hp hn).1 (by rw [e2]; exact c4)
        rw [e2] at hs
        obtain ⟨o1, o2, o3, o4, o5⟩ := on_same { sx with cell := sx.cell ++ [(L8 t)[p]] } (L8 t)[p]
        obtain ⟨r, hr1, hr2⟩ := ih ((L8 t).length - (p + 1)) (by omega) (p + 1) _ (acc ++ [(L8 t)[p]]) rfl hs (o2.trans m1) (o3.trans (by rw [m2])) (by simp; omega) (by rw [o4, o5]; exact c3)
        refine ⟨r, go (Ev.neg (by rw [nums_len]; omega) (Ev.pos (by rw [nums_len]; omega) ?_)), hr2.of t (Sm.trans sm (Sm.trans (b := { sx with cell := sx.cell ++ [(L8 t)[p]] }) ⟨rfl, rfl, rfl, rfl⟩ o1)) (by omega)⟩
        rw [w1 _ (by omega), nums_snoc t acc p hp]
        exact hr1
    intro p s acc hd hr m1 m2 hl c3
    by_cases hp : p < (L8 t).length
    · by_cases hx : (L8 t)[p] = 34
      · -- a quote
        have e : RS.next (up s) (L8 t)[p] = (up s).turn .closed := by
          have : (up s).md = .quoted := m1
          rw [RS.next, this]
          show RS.quoted (up s) (L8 t)[p] = _
          rw [RS.quoted, if_pos hx]
        have hs := (reach_step t hr hp hn).1 (by rw [e]; exact hr.ok)
        rw [e] at hs
        obtain ⟨o1, o2, o3, o4, o5⟩ := on_same ((up s).turn .closed) (L8 t)[p]
        have sm : Sm s (((up s).turn .closed).on (L8 t)[p]) := Sm.trans (b := (up s).turn .closed) ⟨rfl, rfl, rfl, rfl⟩ o1
        by_cases hp1 : p + 1 < (L8 t).length
        · by_cases hy : (L8 t)[p + 1] = 34
          · obtain ⟨r, hr1, hr2⟩ := inner (p + 1) _ ((up (((up s).turn .closed).on (L8 t)[p])).turn .quoted) acc (by omega) hs hp1 (by rw [hy]; decide) (by
              have : (up (((up s).turn .closed).on (L8 t)[p])).md = .closed := o2
              rw [RS.next, this]
              show RS.closed (up (((up s).turn .closed).on (L8 t)[p])) (L8 t)[p + 1] = _
              rw [RS.closed, if_pos hy]) rfl (o3.trans m2) hl ⟨rfl, rfl, rfl, rfl⟩ rfl rfl ((Prod.ext (show _ = s.ml from o4) (show _ = s.mc from o5)).trans c3) hs.ok
            refine ⟨r, ?_, hr2.of t sm (by omega)⟩
            refine Ev.succ (fun k => larderref04_quoted.l0.eq_2 ..) (Ev.pos (by omega) (Ev.pos (by omega) (Ev.pos ((bt_is t p hp 34).2 hx) ?_)))
            rw [w1 _ (by omega)]
            refine Ev.neg (by omega) (Ev.pos (by omega) (Ev.pos (by omega) (Ev.pos ((bt_is t (p + 1) hp1 34).2 hy) hr1)))
          · refine ⟨okQ acc (p + 1), ?_, .inl ⟨acc, p + 1, _, rfl, hs, sm, o2, o3.trans m2, hl, by omega, .inr ⟨hp1, hy⟩⟩⟩
            refine Ev.succ (fun k => larderref04_quoted.l0.eq_2 ..) (Ev.pos (by omega) (Ev.pos (by omega) (Ev.pos ((bt_is t p hp 34).2 hx) ?_)))
            rw [w1 _ (by omega)]
            refine Ev.neg (by omega) (Ev.pos (by omega) (Ev.pos (by omega) (Ev.neg (fun q => hy ((bt_is t (p + 1) hp1 34).1 q)) ?_)))
            rw [nums_tx]
            exact Ev.here
        · refine ⟨okQ acc (p + 1), ?_, .inl ⟨acc, p + 1, _, rfl, hs, sm, o2, o3.trans m2, hl, by omega, .inl (by omega)⟩⟩
          refine Ev.succ (fun k => larderref04_quoted.l0.eq_2 ..) (Ev.pos (by omega) (Ev.pos (by omega) (Ev.pos ((bt_is t p hp 34).2 hx) ?_)))
          rw [w1 _ (by omega)]
          refine Ev.pos (by omega) ?_
          rw [nums_tx]
          exact Ev.here
      · have en : RS.next (up s) (L8 t)[p] = RS.quoted (up s) (L8 t)[p] := by
          have : (up s).md = .quoted := m1
          rw [RS.next, this]
        by_cases hk : okB (L8 t)[p] = false
        · refine ⟨badQ t 4 p, ?_, .inr ⟨4, p, by omega, rfl, ?_⟩⟩
          · refine Ev.succ (fun k => larderref04_quoted.l0.eq_2 ..) (Ev.pos (by omega) (Ev.pos (by omega) (Ev.neg (fun q => hx ((bt_is t p hp 34).1 q)) ?_)))
            refine Ev.succ (fun k => larderref04_quoted.j1.eq_2 ..) (Ev.pos (by omega) (Ev.pos (by omega) (Ev.bind1 (may_eq t p hp) ?_)))
            rw [hk]
            exact Ev.neg (by decide) (Ev.bind (placed_ev t 4 p (Nat.le_of_lt hp) (by omega)) Ev.here)
          · exact bad_at t (s1 := up s) hr hp hn (by rw [en, RS.quoted, if_neg hx, if_pos hk]; rfl) rfl ⟨by omega, by omega, by omega⟩
        · obtain ⟨r, hr1, hr2⟩ := inner p s (up s) acc (by omega) hr hp (by simpa using hk) (by rw [en, RS.quoted, if_neg hx, if_neg hk]) m1 m2 hl ⟨rfl, rfl, rfl, rfl⟩ rfl rfl c3 hr.ok
          exact ⟨r, Ev.succ (fun k => larderref04_quoted.l0.eq_2 ..) (Ev.pos (by omega) (Ev.pos (by omega) (Ev.neg (fun q => hx ((bt_is t p hp 34).1 q)) hr1))), hr2⟩
    · -- the text's end
      obtain rfl : p = (L8 t).length := by have := hr.le; omega
      refine ⟨badQ t 1 fr, Ev.succ (fun k => larderref04_quoted.l0.eq_2 ..) (Ev.neg (by omega) (Ev.bind (placed_ev t 1 fr hfr (by omega)) Ev.here)), .inr ⟨1, fr, by omega, rfl, hfr, ?_, .inr ⟨?_, ?_, .inl rfl⟩⟩⟩
      · rw [reach_end t hr]
      · rw [reach_end t hr]; exact hr.ok
      · rw [reach_end t hr, RS.fin, if_pos hr.ok, RS.over, m1, ← c3]; rfl
end Go.Proofs.YtappphffbnkloaaGreatDoor.Sht
