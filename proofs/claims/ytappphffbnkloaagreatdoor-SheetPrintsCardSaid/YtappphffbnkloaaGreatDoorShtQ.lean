/- Parse, walked. -/
import Derived.Test.YtappphffbnkloaaGreatDoorShtO
import Derived.Lib.ConvBytes
import Derived.Laws.AppendOwnNone
import Derived.Maps.AppendAt
set_option linter.unusedVariables false
set_option linter.unusedSimpArgs false
namespace Go.Proofs.YtappphffbnkloaaGreatDoor.Sht
open Go Go.RowKit Go.Joins
attribute [local go_sem ↓] Go.wp_at_zero Go.wp_at_succ
variable {A : Nat → Addr} {W0 W : World} {b : Nat} {s : RS}
def GoodRows (B : Nat) (w : World) (v : Value) (rs : Rows) : Prop := ∃ lv, w.ownsRow B 28 1 v rs.length lv ∧ RowsAt w B lv rs
def Parsed (A : Nat → Addr) (w : World) (l : List UInt8) (e : Ending) (w' : World) : Prop :=
  ∃ vl ve, e = .returned (.tuple #[vl, ve]) ∧ GoodRows w.heap.size w' vl (parseO l).1 ∧ FaultAt w' w.heap.size A ve (parseO l).2 ∧ Below w.heap.size w w'
theorem below_bytes (w : World) (t : ByteArray) : Below w.heap.size w (Lib.bytesWorld w 5 t) := ⟨rfl, rfl, rfl, by rw [Lib.bytesWorld_size]; omega, fun k hk => Lib.bytesWorld_at_old w 5 t k hk⟩
theorem R.wr_lt (h : R A W0 W b s) {j : Nat} (hj : wr W b j) : j < W.heap.size := by
  obtain ⟨_, _, _, _, _, h⟩ := h
  rw [h.wr_iff] at hj
  have hl := h.all_lt
  rcases hj with e | e | e | e
  · exact e ▸ h.lt
  · exact hl j (by simp only [List.mem_cons, List.mem_append]; exact .inr (.inl (mem_ob.2 e)))
  · exact hl j (by simp only [List.mem_cons, List.mem_append]; exact .inr (.inr (.inl (mem_ob.2 e))))
  · exact hl j (by simp only [List.mem_cons, List.mem_append]; exact .inr (.inr (.inr (.inl (mem_ob.2 e)))))
theorem R.lt (h : R A W0 W b s) : b < W.heap.size := h.wr_lt (.inl rfl)
theorem R.below (h : R A W0 W b s) {w' : World} (k : Below W.heap.size W w') : R A W0 w' b s := by
  obtain ⟨_, _, _, _, _, h⟩ := h
  exact R.mk (h.kept (k.mono h.below.size) (fun j hj => k.block j (h.all_lt j hj)))
theorem R.base (h : R A W0 W b s) : Below W0.heap.size W0 W := by
  obtain ⟨_, _, _, _, _, h⟩ := h
  exact h.below
/-- the bytes of a text that was turned into a slice -/
theorem piece_bytes (w : World) (t : ByteArray) : Piece (Lib.bytesWorld w 5 t) w.heap.size 0 t.data.toList := by
  intro i h
  have h' : i < t.size := by rw [Array.length_toList] at h; exact h
  rw [Nat.zero_add, Lib.bytesWorld_cell w 5 t i h']
  simp [List.getD, List.getElem?_eq_getElem h]
/-- a reader's Feed of a text, and the reader before it -/
theorem feed_text (hF : SF W0 A) (hE : ET W0) (hR : R A W0 W b s) (hL : s.Live) (hd : ∀ l c, s.fault ≠ some (l, c, 9)) (t : ByteArray) (ht : t.size ≤ 4611686018427387904) :
    Calls Tryz.prog 15 #[PT b, .slice (some ⟨W.heap.size, 0, none⟩) t.size (grownCap W t.size 0 5)] (Lib.bytesWorld W 5 t) fun e w' => Fed A W0 W b (s.feed t.data.toList) e w' := by
  have hk := below_bytes W t
  have hs : t.data.toList.length = t.size := by rw [Array.length_toList]; rfl
  have h := feed_r (g := W.heap.size) (off := 0) (cap := grownCap W t.size 0 5) (l := t.data.toList) hF hE (hR.below hk) hL hd (piece_bytes W t) (by rw [Lib.bytesWorld_size]; omega) (fun hw => by have := hR.wr_lt (wr_below hR.lt hk _ hw); omega) (by rw [hs]; exact ht)
  rw [hs] at h
  exact h.mono fun e w' hf => fed_mono hf (Fr.of_below hR.lt hk)
theorem live_told (h : s.Live) : RS.Live { s with rows := [] } := fun e => ⟨(h e).all, ⟨(h e).bd.line, (h e).bd.col, (h e).bd.all, (h e).bd.ml, (h e).bd.mc, (h e).bd.cell, (h e).bd.row, Nat.zero_le _, (h e).bd.count, (h e).bd.width⟩, (h e).bk⟩
theorem kind_row {w : World} {B : Nat} {e : TypeId} {v : Value} {n : Nat} {xs : List Value} (h : w.ownsRow B e 1 v n xs) : ∀ j, v.ownBlock = some j → ∃ cs, w.heap[j]? = some (.cells cs e (0, 0)) := by
  intro j hj
  rcases h.2 with ⟨rfl, _⟩ | ⟨g, cap, cur, rfl, _, hh, _⟩
  · simp [Value.ownBlock] at hj
  · simp only [Value.ownBlock, Option.some.injEq] at hj
    subst hj
    exact ⟨cur, hh⟩
theorem kind_rows {w : World} {B : Nat} : ∀ {lv : List Value} {rs : Rows}, RowsAt w B lv rs → ∀ j ∈ lv.flatMap ob, ∃ cs, w.heap[j]? = some (.cells cs 9 (0, 0))
  | [], _, _, j, hj => by simp at hj
  | v :: lv, r :: rs, h, j, hj => by
    simp only [List.flatMap_cons, List.mem_append] at hj
    rcases hj with hj | hj
    · exact kind_row h.1 j (mem_ob.1 hj)
    · exact kind_rows h.2 j hj
  | _ :: _, [], h, _, _ => h.elim
theorem one_rows {w : World} {B : Nat} : ∀ {lv : List Value} {rs : Rows}, RowsAt w B lv rs → ∀ u ∈ lv, u.oneCell' = true
  | [], _, _, u, hu => by simp at hu
  | v :: lv, r :: rs, h, u, hu => by
    rcases List.mem_cons.1 hu with rfl | hu
    · rcases ownsRow_forms h.1 with ⟨rfl, _⟩ | ⟨g, cap, rfl⟩ <;> rfl
    · exact one_rows h.2 u hu
  | _ :: _, [], h, _, _ => h.elim
theorem rowsAt_app {w : World} {B : Nat} : ∀ {lv lv' : List Value} {rs rs' : Rows}, RowsAt w B lv rs → RowsAt w B lv' rs' → RowsAt w B (lv ++ lv') (rs ++ rs')
  | [], _, [], _, _, h => h
  | v :: lv, _, r :: rs, _, h, k => ⟨h.1, rowsAt_app h.2 k⟩
  | [], _, _ :: _, _, h, _ => h.elim
  | _ :: _, _, [], _, h, _ => h.elim
/-- rows behind an append to other rows -/
theorem good_grown {w w' : World} {B : Nat} {v : Value} {n : Nat} {xs lv : List Value} {rs : Rows} (hv : w.ownsRow B 28 1 v n xs) (hg : w.grownBy w' v.ownBlock) (h : RowsAt w B lv rs) : RowsAt w' B lv rs :=
  rowsAt_kept h fun j hj => by
    obtain ⟨cs, hc⟩ := kind_rows h j hj
    refine hg.block j (blt hc) fun e => ?_
    obtain ⟨cs', hc'⟩ := kind_row hv j e.symm
    rw [hc] at hc'
    have := (Obj.cells.inj (Option.some.inj hc')).2.1
    revert this
    decide
theorem faultAt_mono {w : World} {B B' : Nat} {v : Value} {f : Option (Nat × Nat × Nat)} (h : FaultAt w B A v f) (k : B' ≤ B) : FaultAt w B' A v f := by
  cases f with
  | none => exact h
  | some f =>
    obtain ⟨l, c, e⟩ := f
    obtain ⟨q1, g, q2, q3⟩ := h
    exact ⟨q1, g, Nat.le_trans k q2, q3⟩
theorem wpList_append_told {P : Program} {w : World} {ops : Array Oper} {rest : List Oper} {o : Oper} {a : Act} {Q : Exit → Act → World → Prop} (hgd : o.guard = none) (s x : Operand) (t : TypeId)
    (ho : o.op = .call { callee := .builtin .append, args := #[s, x], argTypes := #[t, t] })
    (base B3 : Nat) (e : TypeId) (i : TypeInfo) (z : Value) (bytes : Nat) (ht : P.underlying t = some (.slice e)) (hi : P.info? e = some i) (hz : i.zero = some z) (hsize : i.size = 1) (hby : i.bytes = bytes) (hzs : z.cells.size = 1)
    (v : Value) (n : Nat) (xs : List Value) (hs : a.eval s = v) (hown : w.ownsRow base e 1 v n xs) (v3 : Value) (m : Nat) (ys : List Value) (hx : a.eval x = v3) (hown3 : w.ownsRow B3 e 1 v3 m ys) (h1 : ∀ u ∈ ys, u.oneCell' = true)
    (h63 : n + m ≤ maxLen) (hbytes : (n + m) * bytes ≤ 140737488355328) (hbase : base ≤ w.heap.size)
    (h : ∀ v' w', w'.ownsRow base e 1 v' (n + m) (xs ++ ys) → w.grownBy w' v.ownBlock → wpList P ops Q rest (a.put o.dst v') w') : wpList P ops Q (o :: rest) a w := by
  rcases ownsRow_forms hown3 with ⟨rfl, rfl⟩ | ⟨g, cap, rfl⟩
  · have hy : ys = [] := List.eq_nil_of_length_eq_zero (by simpa using hown3.1)
    subst hy
    refine wpList_append_own_none hgd s x t ho base e i 1 ht hi v n xs hs hown hx ?_
    exact h v w (by simpa using hown) ⟨rfl, rfl, rfl, Nat.le_refl _, fun _ _ _ => rfl⟩
  · refine wpList_append_own w hgd s x t ho base e i z 1 bytes ht hi hz hsize hby hzs (by omega) v n xs hs hown ⟨g, 0, none⟩ m cap ys hx (by simpa using hown3.1) (fun j u hj => hown3.cells rfl j u hj) h1 h63 hbytes hbase ?_
    intro v' w' q1 q2 _
    exact h v' w' q1 q2
theorem fin_rows (s : RS) (h : s.rows = []) : s.fin.rows.length ≤ 1 := by
  have hc : ∀ (s : RS) (l c : Nat), s.rows = [] → (s.endRow l c).rows.length ≤ 1 := by
    intro s l c h
    have hw : s.widen.rows = [] := by rw [(s.widen_eq).2.2]; exact h
    unfold RS.endRow
    split
    · show (s.widen.rows ++ [s.widen.row]).length ≤ 1
      rw [hw]; simp
    · show s.widen.rows.length ≤ 1
      rw [hw]; simp
  unfold RS.fin
  split
  · unfold RS.over
    split
    · rw [h]; simp
    · exact hc _ _ _ h
    · exact hc _ _ _ h
    · exact hc _ _ _ h
    · show s.rows.length ≤ 1; rw [h]; simp
    · show s.rows.length ≤ 1; rw [h]; simp
  · rw [h]; simp
set_option maxHeartbeats 8000000 in
set_option maxRecDepth 100000 in
theorem parse_r (w : World) (hF : SF w A) (hE : ET w) (t : ByteArray) (ht : t.size ≤ 4611686018427387904) : Calls Tryz.prog 24 #[.string t] w (Parsed A w t.data.toList) := by
  have HN := Lib.hid (new_r w A)
  have HF := Lib.hid hF
  have HE := Lib.hid hE
  have kc := fun (w : World) => Lib.run_convert_string_bytes (P := Tryz.prog) w 9 37 5 t Tryz.underlying9 Tryz.underlying37 Tryz.underlying5
  have hlive := live_feed t.data.toList RS.new (fun _ => inv_new)
  obtain ⟨s1, hs1⟩ : ∃ s1, s1 = RS.new.feed t.data.toList := ⟨_, rfl⟩
  have HS := Lib.hid hs1
  rw [← hs1] at hlive
  have HLv := Lib.hid hlive
  have HFD : Hid (∀ w1, R A w w1 w.heap.size RS.new → Calls Tryz.prog 15 #[PT w.heap.size, .slice (some ⟨w1.heap.size, 0, none⟩) t.size (grownCap w1 t.size 0 5)] (Lib.bytesWorld w1 5 t) fun e w' => Fed A w w1 w.heap.size s1 e w') :=
    Lib.hid fun w1 hR => by rw [hs1]; exact feed_text hF hE hR (fun _ => inv_new) (by intro l c e; cases e) t ht
  clear hF hE hlive hs1
  by_cases hf : s1.fault = none
  · have HFn := Lib.hid hf
    obtain ⟨s3, hs3⟩ : ∃ s3, s3 = RS.fin { s1 with rows := [] } := ⟨_, rfl⟩
    have HS3 := Lib.hid hs3
    have HCl : Hid (∀ w2, R A w w2 w.heap.size { s1 with rows := [] } → Calls Tryz.prog 9 #[PT w.heap.size] w2 (Ended A w w2 w.heap.size s3)) :=
      Lib.hid fun w2 hR => by rw [hs3]; exact close_r HF.out HE.out hR (live_told HLv.out)
    clear hs3
    by_cases hf3 : s3.fault = none
    · have HF3 := Lib.hid hf3
      clear hf3 hf
      have hn1 := (HLv.out HFn.out).bd.rows
      have hn2 := (HLv.out HFn.out).all
      have hn3 : s3.rows.length ≤ 1 := by rw [HS3.out]; exact fin_rows _ rfl
      obtain ⟨i0, hi, hz0, hz1, hz2⟩ := info_parts info28
      have e : parseO t.data.toList = (s1.rows ++ s3.rows, none) := by
        unfold parseO
        rw [← HS.out, if_neg (by rw [HFn.out]; simp), ← HS3.out, if_neg (by rw [HF3.out]; simp)]
      have HO := Lib.hid e
      clear e
      go_enter Tryz.func24, Tryz.ntmps24
      go_wp2_with (first
        | (go_at_call 7; (with_reducible refine HN.out.mono ?_); rintro e w1 ⟨rfl, hR1, hB1⟩; have HR1 := Lib.hid hR1; have HB1 := Lib.hid hB1; have HD := Lib.hid (HFD.out w1 hR1); clear hR1 hB1)
        | (go_at_call 15; (with_reducible refine HD.out.mono ?_); rintro e w2 ⟨vl, ve, rfl, hR2, hT2, hE2, hF2⟩; rw [HFn.out] at hE2; obtain ⟨rfl, _⟩ := hE2; have HC := Lib.hid (HCl.out w2 hR2); have HR2 := Lib.hid hR2; have HT2 := Lib.hid hT2; clear hR2 hT2 hF2)
        | (go_at_call 9; (with_reducible refine HC.out.mono ?_); rintro e w3 ⟨vl3, ve3, rfl, hR3, hT3, hE3, hF3⟩; have HR3 := Lib.hid hR3; rw [HF3.out] at hE3; obtain ⟨rfl, _⟩ := hE3; have HT3 := Lib.hid hT3; have HT2' := Lib.hid (HT2.out.fr hF3); clear hR3 hT3 hF3)
        | (at_builtin; obtain ⟨lv1, t1, r1, _⟩ := HT2'.out; obtain ⟨lv3, t3, r3, _⟩ := HT3.out; have hR3 := HR3.out; refine wpList_append_told rfl (.tmp 27) (.tmp 28) 30 rfl w.heap.size w.heap.size 28 i0 (.slice none 0 0) 24 Tryz.underlying30 hi hz0 hz1 hz2 rfl vl s1.rows.length lv1 rfl t1 vl3 s3.rows.length lv3 rfl t3 (one_rows r3) (by unfold maxLen; omega) (by omega) hR3.base.size ?_; intro v4 w4 hown4 hg4; have HG := Lib.hid hg4; have HO4 := Lib.hid hown4; have HT1 := Lib.hid t1; have HR1' := Lib.hid r1; have HR3' := Lib.hid r3; clear hg4 hown4 t1 t3 r1 r3 hR3))
      go_ret2
      refine ⟨_, _, rfl, ?_⟩
      rw [HO.out]
      refine ⟨⟨lv1 ++ lv3, by rw [List.length_append]; exact HO4.out, rowsAt_app (good_grown HT1.out HG.out HR1'.out) (good_grown HT1.out HG.out HR3'.out)⟩, rfl, ?_⟩
      exact HR3.out.base.grown HG.out HR3.out.base.size (fun k hk => (HT1.out.lt k hk).1)
    · have HF3 := Lib.hid hf3
      obtain ⟨f, hf'⟩ := Option.ne_none_iff_exists'.1 hf3
      obtain ⟨fl, fc, fe⟩ := f
      have HFs := Lib.hid hf'
      clear hf' hf3 hf
      go_enter Tryz.func24, Tryz.ntmps24
      go_wp2_with (first
        | (go_at_call 7; (with_reducible refine HN.out.mono ?_); rintro e w1 ⟨rfl, hR1, hB1⟩; have HR1 := Lib.hid hR1; have HB1 := Lib.hid hB1; have HD := Lib.hid (HFD.out w1 hR1); clear hR1 hB1)
        | (go_at_call 15; (with_reducible refine HD.out.mono ?_); rintro e w2 ⟨vl, ve, rfl, hR2, hT2, hE2, hF2⟩; rw [HFn.out] at hE2; obtain ⟨rfl, _⟩ := hE2; have HC := Lib.hid (HCl.out w2 hR2); have HR2 := Lib.hid hR2; clear hR2 hT2 hF2)
        | (go_at_call 9; (with_reducible refine HC.out.mono ?_); rintro e w3 ⟨vl3, ve3, rfl, hR3, hT3, hE3, hF3⟩; have HE3 := Lib.hid hE3; have HR3 := Lib.hid hR3; rw [HFs.out] at hE3; obtain ⟨⟨_, g, _, rfl, _⟩, _⟩ := hE3; clear hR3 hT3 hF3))
      go_ret2
      refine ⟨_, _, rfl, ?_⟩
      have e : parseO t.data.toList = ([], s3.fault) := by
        unfold parseO
        rw [← HS.out, if_neg (by rw [HFn.out]; simp), ← HS3.out, if_pos HF3.out]
      rw [e]
      refine ⟨⟨[], World.ownsRow_nil _ _ _ _, trivial⟩, ?_, HR3.out.base⟩
      exact faultAt_mono HE3.out.1 HR2.out.base.size
  · have HFn := Lib.hid hf
    obtain ⟨f, hf'⟩ := Option.ne_none_iff_exists'.1 hf
    obtain ⟨fl, fc, fe⟩ := f
    have HFs := Lib.hid hf'
    clear hf' hf
    go_enter Tryz.func24, Tryz.ntmps24
    go_wp2_with (first
      | (go_at_call 7; (with_reducible refine HN.out.mono ?_); rintro e w1 ⟨rfl, hR1, hB1⟩; have HR1 := Lib.hid hR1; have HB1 := Lib.hid hB1; have HD := Lib.hid (HFD.out w1 hR1); clear hR1 hB1)
      | (go_at_call 15; (with_reducible refine HD.out.mono ?_); rintro e w2 ⟨vl, ve, rfl, hR2, hT2, hE2, hF2⟩; have HE2 := Lib.hid hE2; have HR2 := Lib.hid hR2; rw [HFs.out] at hE2; obtain ⟨⟨_, g, _, rfl, _⟩, _⟩ := hE2; clear hR2 hT2 hF2))
    go_ret2
    refine ⟨_, _, rfl, ?_⟩
    have e : parseO t.data.toList = ([], s1.fault) := by
      unfold parseO
      rw [← HS.out, if_pos HFn.out]
    rw [e]
    exact ⟨⟨[], World.ownsRow_nil _ _ _ _, trivial⟩, faultAt_mono HE2.out.1 HB1.out.size, HR2.out.base⟩
end Go.Proofs.YtappphffbnkloaaGreatDoor.Sht
