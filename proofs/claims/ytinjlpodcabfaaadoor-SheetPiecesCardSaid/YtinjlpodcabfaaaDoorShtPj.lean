-- joined out of the texts ShtPp ShtPr ShtGo ShtPf ShtPw
import Derived.Test.YtinjlpodcabfaaaDoorShtN
import Derived.Test.YtinjlpodcabfaaaDoorShtFt
import Derived.Test.YtinjlpodcabfaaaDoorShtQ
import Derived.Test.YtinjlpodcabfaaaDoorShtR
import Derived.Test.YtinjlpodcabfaaaDoorGSxf17
import Derived.Laws.Strings2
set_option linter.unusedVariables false
set_option linter.unusedSimpArgs false
namespace Go.Proofs.YtinjlpodcabfaaaDoor.Sht
/-- rows ahead of a state's own -/
def RS.pre (p : Rows) (s : RS) : RS := { s with rows := p ++ s.rows }
section
variable (p : Rows) (s : RS) (x : UInt8)
theorem pre_widen : (s.pre p).widen = s.widen.pre p := by
  unfold RS.widen
  show (if s.count = 0 then _ else _) = _
  split <;> rfl
theorem pre_newRow : (s.pre p).newRow = s.newRow.pre p := by
  unfold RS.newRow RS.pre
  simp
theorem pre_endRow (l c : Nat) : (s.pre p).endRow l c = (s.endRow l c).pre p := by
  unfold RS.endRow
  rw [pre_widen]
  show (if s.widen.row.length = s.widen.width then _ else _) = _
  split
  · exact pre_newRow p s.widen
  · rfl
theorem pre_put : (s.pre p).put x = (s.put x).pre p := by
  unfold RS.put
  show (if 4096 < (s.cell ++ [x]).length then _ else _) = _
  split <;> rfl
theorem pre_comma : (s.pre p).comma = s.comma.pre p := by
  unfold RS.comma
  show RS.turn (if s.endCell.row.length = 64 then _ else _) .start = _
  split <;> rfl
theorem pre_plain : (s.pre p).plain x = (s.plain x).pre p := by
  unfold RS.plain
  repeat' split
  all_goals first | exact pre_comma p s | exact pre_put p s x | rfl
theorem pre_quoted : (s.pre p).quoted x = (s.quoted x).pre p := by
  unfold RS.quoted
  repeat' split
  all_goals first | exact pre_put p s x | rfl
theorem pre_closed : (s.pre p).closed x = (s.closed x).pre p := by
  unfold RS.closed
  repeat' split
  all_goals first | exact pre_comma p s | exact pre_put p (s.turn .quoted) x | rfl
theorem pre_back : (s.pre p).back x = (s.back x).pre p := by
  unfold RS.back
  split
  · exact pre_endRow p s _ _
  · rfl
theorem pre_start : (s.pre p).start x = (s.start x).pre p := by
  unfold RS.start
  split
  · rfl
  · exact pre_plain p (s.turn .plain) x
theorem pre_fresh : (s.pre p).fresh x = (s.fresh x).pre p := by
  unfold RS.fresh
  show (if s.count = 4096 then _ else _) = _
  split
  · rfl
  · exact pre_start p s x
theorem pre_next : (s.pre p).next x = (s.next x).pre p := by
  unfold RS.next
  show (match s.md with | .fresh => _ | .start => _ | .plain => _ | .quoted => _ | .closed => _ | .back => _) = _
  cases h : s.md
  · exact pre_fresh p s x
  · exact pre_start p s x
  · exact pre_plain p s x
  · exact pre_quoted p s x
  · exact pre_closed p s x
  · exact pre_back p s x
theorem pre_step : (s.pre p).step x = (s.step x).pre p := by
  unfold RS.step
  show (if s.all = 262144 then _ else _) = _
  split
  · rfl
  · show RS.on (RS.next (RS.pre p { s with all := s.all + 1 }) x) x = _
    rw [pre_next]
    unfold RS.on
    split <;> rfl
end
theorem pre_feed (p : Rows) : ∀ (l : List UInt8) (s : RS), (s.pre p).feed l = (s.feed l).pre p
  | [], s => rfl
  | x :: l, s => by
    by_cases h : s.fault = none
    · rw [feed_cons (s := s.pre p) h, feed_cons h, pre_step, pre_feed p l]
    · rw [feed_stop (s := s.pre p) h, feed_stop h]
theorem pre_over (p : Rows) (s : RS) : (s.pre p).over = s.over.pre p := by
  unfold RS.over
  show (match s.md with | .fresh => _ | .start => _ | .plain => _ | .closed => _ | .quoted => _ | .back => _) = _
  cases h : s.md
  · rfl
  · exact pre_endRow p s.endCell _ _
  · exact pre_endRow p s.endCell _ _
  · rfl
  · exact pre_endRow p s.endCell _ _
  · rfl
theorem pre_fin (p : Rows) (s : RS) : (s.pre p).fin = s.fin.pre p := by
  unfold RS.fin
  show (if s.fault = none then _ else _) = _
  split
  · exact pre_over p s
  · rfl
/-- the state, its rows told -/
def RS.bare (s : RS) : RS := { s with rows := [] }
theorem bare_pre (s : RS) : s.bare.pre s.rows = s := by cases s; simp [RS.bare, RS.pre]
/-- a piece more: what is told adds up -/
theorem bare_feed (s : RS) (l : List UInt8) : (s.feed l).rows = s.rows ++ (s.bare.feed l).rows ∧ (s.feed l).bare = (s.bare.feed l).bare ∧ (s.feed l).fault = (s.bare.feed l).fault := by
  have h := pre_feed s.rows l s.bare
  rw [bare_pre] at h
  rw [h]
  exact ⟨rfl, rfl, rfl⟩
end Go.Proofs.YtinjlpodcabfaaaDoor.Sht
set_option linter.unusedVariables false
set_option linter.unusedSimpArgs false
namespace Go.Proofs.YtinjlpodcabfaaaDoor.Sht
theorem next_rows (s : RS) (x : UInt8) : (s.next x).rows.length ≤ s.rows.length + 1 := by
  have w : ∀ s : RS, s.widen.rows = s.rows := fun s => by unfold RS.widen; split <;> rfl
  have p : ∀ (s : RS) (x : UInt8), (s.put x).rows = s.rows := fun s x => by unfold RS.put; split <;> rfl
  have cm : ∀ s : RS, s.comma.rows = s.rows := fun s => by unfold RS.comma; split <;> rfl
  have er : ∀ (s : RS) (l c : Nat), (s.endRow l c).rows.length ≤ s.rows.length + 1 := fun s l c => by
    unfold RS.endRow; split
    · show (s.widen.rows ++ [s.widen.row]).length ≤ _; rw [w]; simp
    · show s.widen.rows.length ≤ _; rw [w]; omega
  have pl : ∀ (s : RS) (x : UInt8), (s.plain x).rows = s.rows := fun s x => by
    unfold RS.plain; repeat' split
    all_goals first | exact cm s | exact p s x | rfl
  have st : ∀ (s : RS) (x : UInt8), (s.start x).rows = s.rows := fun s x => by
    unfold RS.start; split
    · rfl
    · exact pl (s.turn .plain) x
  unfold RS.next
  split
  · unfold RS.fresh; split
    · show s.rows.length ≤ _; omega
    · rw [st s x]; omega
  · rw [st s x]; omega
  · rw [pl s x]; omega
  · have : (s.quoted x).rows = s.rows := by
      unfold RS.quoted; repeat' split
      all_goals first | exact p s x | rfl
    rw [this]; omega
  · have : (s.closed x).rows = s.rows := by
      unfold RS.closed; repeat' split
      all_goals first | exact cm s | exact p (s.turn .quoted) x | rfl
    rw [this]; omega
  · unfold RS.back; split
    · exact er s _ _
    · show s.rows.length ≤ _; omega
theorem feed_rows_le : ∀ (l : List UInt8) (s : RS), s.all ≤ 262144 → (s.feed l).rows.length + s.all ≤ s.rows.length + 262145
  | [], s, h => by show s.rows.length + s.all ≤ _; omega
  | x :: l, s, h => by
    by_cases hf : s.fault = none
    · rw [feed_cons hf]
      by_cases ha : s.all = 262144
      · have e : s.step x = s.fail s.line s.col 20 := by unfold RS.step; rw [if_pos ha]
        rw [e, feed_stop (by show some _ ≠ none; simp)]
        show s.rows.length + s.all ≤ _
        omega
      · have h1 := step_all x ha
        have h2 : (s.step x).rows.length ≤ s.rows.length + 1 := by
          unfold RS.step
          rw [if_neg ha]
          have := next_rows { s with all := s.all + 1 } x
          unfold RS.on
          split <;> exact this
        have := feed_rows_le l (s.step x) (by rw [h1]; omega)
        rw [h1] at this
        omega
    · rw [feed_stop hf]; omega
theorem new_rows_le (l : List UInt8) : (RS.new.feed l).rows.length ≤ 262145 := by
  have := feed_rows_le l RS.new (by decide)
  simpa [RS.new] using this
end Go.Proofs.YtinjlpodcabfaaaDoor.Sht
set_option linter.unusedVariables false
set_option linter.unusedSimpArgs false
namespace Go.Proofs.YtinjlpodcabfaaaDoor.Sht
open Go Go.RowKit Go.Joins
variable {A : Nat → Addr} {W0 W : World} {b : Nat} {s : RS}
def Got (W0 W : World) (b : Nat) (v : Value) (rs : Rows) : Prop := ∃ lv, W.ownsRow W0.heap.size 28 1 v rs.length lv ∧ RowsAt W W0.heap.size lv rs ∧ ∀ j ∈ ob v ++ lv.flatMap ob, ¬ wr W b j
theorem told_got {v : Value} {rs : Rows} (h : ToldAt W0 W b v rs) : Got W0 W b v rs := by
  obtain ⟨lv, h1, h2, _, h4⟩ := h
  exact ⟨lv, h1, h2, h4⟩
theorem got_nil : Got W0 W b (.slice none 0 0) [] := ⟨[], World.ownsRow_nil _ _ _ _, trivial, fun j hj => by simp [ob, Value.ownBlock] at hj⟩
theorem Got.good {v : Value} {rs : Rows} (h : Got W0 W b v rs) : GoodRows W0.heap.size W v rs := by
  obtain ⟨lv, h1, h2, _⟩ := h
  exact ⟨lv, h1, h2⟩
theorem Got.fr {v : Value} {rs : Rows} {w w' : World} (h : Got W0 w b v rs) (k : Fr b w w') : Got W0 w' b v rs := by
  obtain ⟨lv, h1, h2, h4⟩ := h
  have hlt := ToldAt.lt h1 h2
  have same : ∀ j ∈ ob v ++ lv.flatMap ob, w'.heap[j]? = w.heap[j]? := fun j hj => k.keep j (hlt j hj).2 (h4 j hj)
  exact ⟨lv, ownsRow_kept h1 fun j hj => same j (List.mem_append_left _ (mem_ob.2 hj)), rowsAt_kept h2 fun j hj => same j (List.mem_append_right _ hj), fun j hj hw => by
    rcases k.own j hw with e | e
    · exact h4 j hj e
    · have := (hlt j hj).2; omega⟩
/-- a Reader and other rows behind an append to rows that are not the Reader's -/
theorem got_grown {w w' : World} {v : Value} {G : Rows} (h1 : Got W0 w b v G) (hR : R A W0 w b s) (hs : s.rows = [])
    (hg : w.grownBy w' v.ownBlock) :
    R A W0 w' b s ∧ (∀ j, j < w.heap.size → some j ≠ v.ownBlock → w'.heap[j]? = w.heap[j]?) ∧ (∀ j, wr w' b j ↔ wr w b j) := by
  obtain ⟨lv, g1, g2, g3⟩ := h1
  obtain ⟨vc, vr, vl, fl, ls, h⟩ := hR
  have hlt := ToldAt.lt g1 g2
  have hbase : ∀ j, some j = v.ownBlock → W0.heap.size ≤ j := fun j e => (hlt j (List.mem_append_left _ (mem_ob.2 e.symm))).1
  have hbel : Below W0.heap.size w w' := ⟨hg.os, hg.tape, hg.output, hg.size, fun k hk => hg.block k (Nat.lt_of_lt_of_le hk h.below.size) (fun e => by have := hbase k e; omega)⟩
  have hnb : some b ≠ v.ownBlock := fun e => g3 b (List.mem_append_left _ (mem_ob.2 e.symm)) (.inl rfl)
  have hbb : w'.heap[b]? = w.heap[b]? := hg.block b (h.all_lt b (by simp)) hnb
  have hls : ls = [] := by
    have := h.rws
    rw [hs] at this
    cases ls with
    | nil => rfl
    | cons x l => exact this.elim
  refine ⟨R.mk (h.kept hbel fun j hj => hg.block j (h.all_lt j hj) fun e => ?_), fun j hj hn => hg.block j hj hn, fun j => ?_⟩
  · have hw := g3 j (List.mem_append_left _ (mem_ob.2 e.symm))
    rw [h.wr_iff] at hw
    simp only [List.mem_cons, List.mem_append] at hj
    rcases hj with hj | hj | hj | hj | hj | hj
    · exact hw (.inl hj)
    · exact hw (.inr (.inl (mem_ob.1 hj)))
    · exact hw (.inr (.inr (.inl (mem_ob.1 hj))))
    · exact hw (.inr (.inr (.inr (mem_ob.1 hj))))
    · obtain ⟨cs, hc⟩ := kind_row g1 j e.symm
      have hf := h.flt
      cases hsf : s.fault with
      | none =>
        rw [hsf] at hf
        simp only [FaultAt] at hf
        subst hf
        simp [fb] at hj
      | some f =>
        obtain ⟨l, c, e'⟩ := f
        rw [hsf] at hf
        obtain ⟨_, g, _, rfl, hgc⟩ := hf
        have : j = g := by simpa [fb] using hj
        subst this
        rw [hc] at hgc
        have := (Obj.cells.inj (Option.some.inj hgc)).2.1
        revert this
        decide
    · rw [hls] at hj; simp at hj
  · unfold wr
    have hc : ∀ o, w'.cell? ⟨b, o, none⟩ = w.cell? ⟨b, o, none⟩ := fun o => World.cell?_of_block (a := ⟨b, o, none⟩) hbb
    simp only [hc]
theorem rowsAt_grown {w w' : World} {B : Nat} {v : Value} {n : Nat} {xs lv : List Value} {rs : Rows} (hv : w.ownsRow B 28 1 v n xs) (hg : w.grownBy w' v.ownBlock) (h : RowsAt w B lv rs) : RowsAt w' B lv rs := good_grown hv hg h
theorem errAt_keep {w w' : World} {v : Value} {n : Nat} {xs : List Value} {B0 : Nat} (g1 : w.ownsRow B0 28 1 v n xs) (hk : ∀ j, j < w.heap.size → some j ≠ v.ownBlock → w'.heap[j]? = w.heap[j]?) (hw : ∀ j, wr w' b j ↔ wr w b j) {B : Nat} {ve : Value} {f : Option (Nat × Nat × Nat)} (h : ErrAt w B A b ve f) : ErrAt w' B A b ve f := by
  obtain ⟨h1, h2⟩ := h
  refine ⟨?_, fun j hj q => h2 j hj ((hw j).1 q)⟩
  cases f with
  | none => exact h1
  | some f =>
    obtain ⟨l, c, e⟩ := f
    obtain ⟨hc, g, hB, rfl, hg⟩ := h1
    refine ⟨hc, g, hB, rfl, (hk g (blt hg) fun e' => ?_).trans hg⟩
    obtain ⟨cs, hcs⟩ := kind_row g1 g e'.symm
    rw [hg] at hcs
    have := (Obj.cells.inj (Option.some.inj hcs)).2.1
    revert this
    decide
set_option maxHeartbeats 1000000 in
theorem wpList_append_got {w : World} {ops : Array Oper} {rest : List Oper} {o : Oper} {a : Act} {Q : Exit → Act → World → Prop} (hgd : o.guard = none) (x y : Operand)
    (ho : o.op = .call { callee := .builtin .append, args := #[x, y], argTypes := #[22, 22] })
    {i : TypeInfo} {z : Value} (hi : Tryd.prog.info? 28 = some i) (hz : i.zero = some z) (hsize : i.size = 1) (hby : i.bytes = 24) (hzs : z.cells.size = 1)
    {v v3 : Value} {G L : Rows} (hs : a.eval x = v) (hx : a.eval y = v3) (h1 : Got W0 w b v G) (h2 : Got W0 w b v3 L) (hR : R A W0 w b s) (hrows : s.rows = []) (hlen : G.length + L.length ≤ 4000000000000)
    (K : ∀ v' w', Got W0 w' b v' (G ++ L) → R A W0 w' b s → (∀ (B : Nat) (ve : Value) (f : Option (Nat × Nat × Nat)), ErrAt w B A b ve f → ErrAt w' B A b ve f) → wpList Tryd.prog ops Q rest (a.put o.dst v') w') : wpList Tryd.prog ops Q (o :: rest) a w := by
  have hR0 := hR
  obtain ⟨lv, g1, g2, g3⟩ := h1
  obtain ⟨lv3, k1, k2, k3⟩ := h2
  have fin : ∀ v' w', w'.ownsRow W0.heap.size 28 1 v' (G.length + L.length) (lv ++ lv3) → w.grownBy w' v.ownBlock → (v'.ownBlock = v.ownBlock ∨ v'.ownBlock = some w.heap.size) → wpList Tryd.prog ops Q rest (a.put o.dst v') w' := fun v' w' q1 q2 q4 => by
    obtain ⟨e1, e2, e3⟩ := got_grown ⟨lv, g1, g2, g3⟩ hR hrows q2
    refine K v' w' ⟨lv ++ lv3, by rw [List.length_append]; exact q1, rowsAt_app (rowsAt_grown g1 q2 g2) (rowsAt_grown g1 q2 k2), fun j hj hw => ?_⟩ e1 (fun B ve f h => errAt_keep g1 e2 e3 h)
    rw [e3] at hw
    rw [List.flatMap_append, List.mem_append, List.mem_append] at hj
    rcases hj with hj | hj | hj
    · rcases q4 with e | e
      · exact g3 j (List.mem_append_left _ (mem_ob.2 (by rw [← e]; exact mem_ob.1 hj))) hw
      · have hj' := mem_ob.1 hj
        rw [e] at hj'
        have := hR.wr_lt hw
        have : w.heap.size = j := by simpa using hj'
        omega
    · exact g3 j (List.mem_append_right _ hj) hw
    · exact k3 j (List.mem_append_right _ hj) hw
  rcases ownsRow_forms k1 with ⟨rfl, e⟩ | ⟨g, cap, rfl⟩
  · have hl3 : lv3 = [] := List.eq_nil_of_length_eq_zero (by rw [k1.1, e])
    subst hl3
    refine wpList_append_own_none hgd x y 22 ho W0.heap.size 28 i 1 Tryd.underlying22 hi v G.length lv hs g1 hx ?_
    exact fin v w (by rw [e, Nat.add_zero, List.append_nil]; exact g1) ⟨rfl, rfl, rfl, Nat.le_refl _, fun _ _ _ => rfl⟩ (.inl rfl)
  · exact wpList_append_own_at w hgd x y 22 ho W0.heap.size 28 i z 1 24 Tryd.underlying22 hi hz hsize hby hzs (by omega) v G.length lv hs g1 ⟨g, 0, none⟩ L.length cap lv3 hx (by simpa using k1.1) (fun j u hj => k1.cells rfl j u hj) (one_rows k2)
      (by simp only [maxLen]; omega) (by omega) hR.base.size (fun v' w' q1 q2 _ q4 => fin v' w' q1 q2 q4)
end Go.Proofs.YtinjlpodcabfaaaDoor.Sht
set_option linter.unusedVariables false
set_option linter.unusedSimpArgs false
namespace Go.Proofs.YtinjlpodcabfaaaDoor.Sht
open Go Go.RowKit Go.Joins
variable {A : Nat → Addr} {w wr : World} {b : Nat}
theorem piece_feed (hF : SF w A) (hE : ET w) {l0 : List UInt8} (hR : R A w wr b (RS.new.feed l0).bare) (hf : (RS.new.feed l0).fault = none) (m : ByteArray) (hm : m.size ≤ 4611686018427387904) :
    Calls Tryd.prog 10 #[PT b, .slice (some ⟨wr.heap.size, 0, none⟩) m.size (grownCap wr m.size 0 5)] (Lib.bytesWorld wr 5 m) fun ev w' =>
      ∃ vl ve L, ev = .returned (.tuple #[vl, ve]) ∧ R A w w' b (RS.new.feed (l0 ++ m.data.toList)).bare ∧ Got w w' b vl L ∧ (RS.new.feed (l0 ++ m.data.toList)).rows = (RS.new.feed l0).rows ++ L ∧ ErrAt w' wr.heap.size A b ve (RS.new.feed (l0 ++ m.data.toList)).fault ∧ Fr b wr w' := by
  have hL := live_told (live_feed l0 RS.new (fun _ => inv_new))
  refine (feed_text hF hE hR hL (fun l c e => by
    have : (RS.new.feed l0).fault = some (l, c, 9) := e
    rw [hf] at this
    cases this) m hm).mono ?_
  rintro ev w' ⟨vl, ve, rfl, h1, h2, h3, h4⟩
  obtain ⟨e1, e2, e3⟩ := bare_feed (RS.new.feed l0) m.data.toList
  rw [← feed_app] at e1 e2 e3
  refine ⟨vl, ve, _, rfl, ?_, told_got h2, e1, ?_, h4⟩
  · rw [e2]; exact h1
  · rw [e3]; exact h3
/-- the fault of a text's end: its place is small -/
theorem over_fault {t : List UInt8} {l c e : Nat} (h0 : (RS.new.feed t).fault = none) (h : (RS.new.feed t).bare.fin.fault = some (l, c, e)) : l ≤ 262145 ∧ c ≤ 262144 ∧ coded e ∧ e ≠ 9 := by
  have hA : ∃ n, n ≤ 262144 ∧ Ft n (RS.new.feed t) := by
    have go : ∀ (l : List UInt8) (s : RS), s.all ≤ 262144 → Ft s.all s → ∃ n, n ≤ 262144 ∧ Ft n (s.feed l) := by
      intro l
      induction l with
      | nil => intro s ha h; exact ⟨_, ha, h⟩
      | cons x l ih =>
        intro s ha h
        by_cases hf : s.fault = none
        · rw [feed_cons hf]
          by_cases hx : s.all = 262144
          · have e : s.step x = s.fail s.line s.col 20 := by unfold RS.step; rw [if_pos hx]
            rw [e, feed_stop (by show some _ ≠ none; simp)]
            exact ⟨_, ha, h.here (by omega) 20 (by unfold coded; omega) (by decide) (by decide)⟩
          · exact ih _ (by rw [step_all x hx]; omega) (by rw [step_all x hx]; exact h.step (by omega) x hx)
        · rw [feed_stop hf]; exact ⟨_, ha, h⟩
    exact go t RS.new (by decide) ⟨by decide, by decide, by decide, by decide, fun l c e q => by cases q⟩
  obtain ⟨n, hn, hFt⟩ := hA
  generalize RS.new.feed t = s at h0 h hFt
  have hb : Ft n s.bare := ⟨hFt.line, hFt.col, hFt.ml, hFt.mc, hFt.flt⟩
  have hf0 : s.bare.fault = none := h0
  unfold RS.fin at h
  rw [if_pos hf0] at h
  unfold RS.over at h
  have er := (hb.endCell.endRow hn hb.line hb.col).flt
  split at h
  · rw [hf0] at h; cases h
  · obtain ⟨a1, a2, a3, _, a5⟩ := er l c e h; exact ⟨a1, a2, a3, a5⟩
  · obtain ⟨a1, a2, a3, _, a5⟩ := er l c e h; exact ⟨a1, a2, a3, a5⟩
  · obtain ⟨a1, a2, a3, _, a5⟩ := er l c e h; exact ⟨a1, a2, a3, a5⟩
  · have : some (s.bare.ml, s.bare.mc, 1) = some (l, c, e) := h
    cases this
    have h1 := hb.ml
    have h2 := hb.mc
    exact ⟨by omega, by omega, by unfold coded; omega, by decide⟩
  · have : some (s.bare.ml, s.bare.mc, 3) = some (l, c, e) := h
    cases this
    have h1 := hb.ml
    have h2 := hb.mc
    exact ⟨by omega, by omega, by unfold coded; omega, by decide⟩
end Go.Proofs.YtinjlpodcabfaaaDoor.Sht
set_option linter.unusedVariables false
set_option linter.unusedSimpArgs false
namespace Go.Proofs.YtinjlpodcabfaaaDoor.Sht
open Go Go.RowKit Go.Proofs.YtinjlpodcabfaaaDoorW.PrintWords Go.Proofs.YtinjlpodcabfaaaDoor.GS
theorem within_ok (z : Int) (n : Nat) (h1 : 1 ≤ n) (h2 : n ≤ 4611686018427387904) : ∃ r : Nat, larderlaw04_within.f z (n : Int) = some (r : Int) ∧ r < n := by
  have a := Int.tmod_lt_of_pos z (show (0 : Int) < n by omega)
  have b := Int.lt_tmod_of_pos z (show (0 : Int) < n by omega)
  unfold larderlaw04_within.f
  rw [if_neg (by omega)]
  by_cases h : Int.tmod z n < 0
  · rw [if_pos h]
    refine ⟨(Int.tmod z n + n).toNat, ?_, by omega⟩
    congr 1
    unfold wrap64
    omega
  · rw [if_neg h]
    exact ⟨(Int.tmod z n).toNat, by congr 1; omega, by omega⟩
theorem piece_run (T : ByteArray) (p q : Nat) (h1 : p ≤ q) (h2 : q ≤ T.size) (wx : World) : (Instr.slice 9 (.string T) (some (.int .i64 (p : Int))) (some (.int .i64 (q : Int))) none).run Tryd.prog wx = .ok (.string (T.extract p q)) wx := by
  have := run_slice_string (P := Tryd.prog) wx 9 T .i64 .i64 (p : Int) (q : Int) Tryd.underlying9 (by omega) (by omega) (by omega)
  rw [this]
  have e1 : (p : Int).toNat = p := by omega
  have e2 : (q : Int).toNat = q := by omega
  rw [e1, e2]
theorem piece_list (T : ByteArray) (p q : Nat) (h1 : p ≤ q) (h2 : q ≤ T.size) : (L8 T).take p ++ (T.extract p q).data.toList = (L8 T).take q := by
  rw [ByteArray.data_extract, Array.toList_extract, List.extract_eq_take_drop]
  have e : (L8 T).take q = (L8 T).take (p + (q - p)) := by rw [show p + (q - p) = q by omega]
  rw [e, List.take_add]
theorem piece_size (T : ByteArray) (p q : Nat) (h1 : p ≤ q) (h2 : q ≤ T.size) : (T.extract p q).size ≤ T.size := by
  rw [ByteArray.size_extract]
  omega
end Go.Proofs.YtinjlpodcabfaaaDoor.Sht
