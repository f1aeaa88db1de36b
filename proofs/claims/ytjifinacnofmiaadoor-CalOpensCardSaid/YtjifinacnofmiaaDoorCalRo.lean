/- The law's room: a list of days, copied, with the mark behind it. Lists of days of one's own. -/
import Derived.Test.YtjifinacnofmiaaDoorCalRm
import Derived.Test.YtjifinacnofmiaaDoorCalDy
import Derived.Laws.OwnMore
import Derived.Laws.AppendOwn
import Derived.Laws.AppendOwnNone
set_option linter.unusedVariables false
set_option linter.unusedSimpArgs false
namespace Go.Proofs.YtjifinacnofmiaaDoor.Ext
open Go Go.RowKit Go.Proofs.YtjifinacnofmiaaDoorW.PrintWords Go.Proofs.YtjifinacnofmiaaDoorW.PrintLast Go.Proofs.YtjifinacnofmiaaDoor.PCal Go.Proofs.YtjifinacnofmiaaDoor.GC Go.Proofs.YtjifinacnofmiaaDoor.CalP
/-- the day behind a list -/
def mk : D3 := (1, 2, 3)
structure MarkOk (w : World) : Prop where
  c0 : w.cell? ⟨0, 0, none⟩ = some (.int .i64 1)
  c1 : w.cell? ⟨0, 1, none⟩ = some (.int .i64 2)
  c2 : w.cell? ⟨0, 2, none⟩ = some (.int .i64 3)
theorem MarkOk.below {w w' : World} (h : MarkOk w) (k : Below w.heap.size w w') : MarkOk w' := ⟨cellB h.c0 k, cellB h.c1 k, cellB h.c2 k⟩
def tcells (l : List D3) : List Value := l.flatMap fun x => [.int .i64 x.1, .int .i64 x.2.1, .int .i64 x.2.2]
theorem tcells_app (l m : List D3) : tcells (l ++ m) = tcells l ++ tcells m := by simp [tcells]
theorem tcells_len (l : List D3) : (tcells l).length = l.length * 3 := by
  induction l with
  | nil => rfl
  | cons x l ih =>
    show ([_, _, _] ++ tcells l).length = _
    rw [List.length_append, ih, List.length_cons, List.length_cons, List.length_cons, List.length_cons, List.length_nil]
    omega
theorem tcells_at (l : List D3) : ∀ i (h : i < l.length), (tcells l)[i * 3]? = some (.int .i64 l[i].1) ∧ (tcells l)[i * 3 + 1]? = some (.int .i64 l[i].2.1) ∧ (tcells l)[i * 3 + 2]? = some (.int .i64 l[i].2.2) := by
  induction l with
  | nil => intro i h; exact absurd h (by simp)
  | cons x l ih =>
    intro i h
    cases i with
    | zero => exact ⟨rfl, rfl, rfl⟩
    | succ i =>
      have hi : i < l.length := by simpa using h
      obtain ⟨a, b, c⟩ := ih i hi
      have e : tcells (x :: l) = [.int .i64 x.1, .int .i64 x.2.1, .int .i64 x.2.2] ++ tcells l := rfl
      rw [e, show (i + 1) * 3 = i * 3 + 3 by omega, List.getElem_cons_succ]
      refine ⟨?_, ?_, ?_⟩
      · rw [List.getElem?_append_right (by simp)]; simpa using a
      · rw [List.getElem?_append_right (by simp)]; simpa using b
      · rw [List.getElem?_append_right (by simp)]; simpa using c
theorem tcells_one (l : List D3) : ∀ u ∈ tcells l, u.oneCell' = true := fun u hu => by
  obtain ⟨x, _, hx⟩ := List.mem_flatMap.1 hu
  simp at hx
  rcases hx with rfl | rfl | rfl <;> rfl
/-- a list of days that is the call's own, with what stands behind it -/
theorem own_DQ {w : World} {base n : Nat} {v : Value} {l : List D3} (h : w.ownsRow base 27 3 v l.length (tcells l)) (hl : l.length ≤ 4611686018427387903) : DQ w v l := by
  refine ⟨?_, ?_⟩
  · obtain ⟨a, cap, rfl⟩ := own_shape h
    refine ⟨a, cap, rfl, hl, fun i hi => ?_⟩
    rcases h.2 with ⟨h', h0⟩ | ⟨g, cap', cur, h', _, hg, hnc, hcm, hcs, htake⟩
    · omega
    · obtain rfl : a = some ⟨g, 0, none⟩ := by injection h'
      obtain ⟨c1, c2, c3⟩ := tcells_at l i hi
      have hk : ∀ j, j < l.length * 3 → w.cell? ⟨g, 0 + j, none⟩ = (tcells l)[j]? := fun j hj => by
        rw [Nat.zero_add, cell_of_row w g j cur _ (0, 0) hg, ← htake, List.getElem?_take, if_pos hj]
        simp
      exact ⟨g, 0, rfl, (hk _ (by omega)).trans c1, (hk (i * 3 + 1) (by omega)).trans c2, (hk (i * 3 + 2) (by omega)).trans c3⟩
  · rintro x m c rfl
    rcases h.2 with ⟨h', h0⟩ | ⟨g, cap', cur, h', _, _, hnc, _⟩
    · injection h' with e1 e2 e3
      omega
    · injection h' with e1 e2 e3
      omega
theorem dl_cells {w : World} {x : Option Addr} {m c : Nat} {l : List D3} (h : DL w (.slice x m c) l) : (x = none → l = []) ∧ m = l.length ∧ ∀ ad, x = some ad → ∀ j u, (tcells l)[j]? = some u → w.cell? (ad.add j) = some u := by
  obtain ⟨x', c', e, h2, h3⟩ := h
  obtain ⟨rfl, rfl, rfl⟩ : x = x' ∧ m = l.length ∧ c = c' := by injection e with e1 e2 e3; exact ⟨e1, e2, e3⟩
  refine ⟨fun h => ?_, rfl, ?_⟩
  · subst h
    cases l with
    | nil => rfl
    | cons a l =>
      obtain ⟨g, o, e, _⟩ := h3 0 (by simp)
      cases e
  · rintro ad rfl j u hj
    have hlt : j < l.length * 3 := by
      have := (List.getElem?_eq_some_iff.1 hj).1
      rwa [tcells_len] at this
    obtain ⟨g, o, e, c1, c2, c3⟩ := h3 (j / 3) (by omega)
    obtain rfl : ad = ⟨g, o, none⟩ := Option.some.inj e
    obtain ⟨t1, t2, t3⟩ := tcells_at l (j / 3) (by omega)
    apply cadd
    rcases (show j % 3 = 0 ∨ j % 3 = 1 ∨ j % 3 = 2 by omega) with q | q | q
    · rw [show j = j / 3 * 3 by omega] at hj
      rw [show o + j = o + j / 3 * 3 by omega, c1]
      exact t1.symm.trans hj
    · rw [show j = j / 3 * 3 + 1 by omega] at hj
      rw [show o + j = o + j / 3 * 3 + 1 by omega, c2]
      exact t2.symm.trans hj
    · rw [show j = j / 3 * 3 + 2 by omega] at hj
      rw [show o + j = o + j / 3 * 3 + 2 by omega, c3]
      exact t3.symm.trans hj
/-- append(nil, l...) -/
theorem wpList_append_dates {w : World} {ops : Array Oper} {rest : List Oper} {o : Oper} {a : Act} {Q : Exit → Act → World → Prop} (hgd : o.guard = none) (s x : Operand)
    (ho : o.op = .call { callee := .builtin .append, args := #[s, x], argTypes := #[23, 23] }) (hs : a.eval s = .slice none 0 0)
    {X : Option Addr} {c : Nat} {l : List D3} (hx : a.eval x = .slice X l.length c) (hd : DL w (.slice X l.length c) l) (hnil : X = none → c = 0) (hb : l.length * 24 ≤ 140737488355328)
    (h : ∀ v' w', w'.ownsRow w.heap.size 27 3 v' l.length (tcells l) → Below w.heap.size w w' → wpList Tryd.prog ops Q rest (a.put o.dst v') w') : wpList Tryd.prog ops Q (o :: rest) a w := by
  obtain ⟨i0, hi, hz0, hz1, hz2⟩ := info_parts infoD
  obtain ⟨h0, -, hc⟩ := dl_cells hd
  cases X with
  | none =>
    obtain rfl := h0 rfl
    obtain rfl := hnil rfl
    exact wpList_append_own_none hgd s x 23 ho w.heap.size 27 i0 3 Tryd.underlying23 hi (.slice none 0 0) 0 [] hs (World.ownsRow_nil _ _ _ _) hx (h _ _ (World.ownsRow_nil _ _ _ _) (Below.refl _ _))
  | some ad =>
    refine wpList_append_own w hgd s x 23 ho w.heap.size 27 i0 _ 3 24 Tryd.underlying23 hi hz0 hz1 hz2 rfl (by decide) (.slice none 0 0) 0 [] hs (World.ownsRow_nil _ _ _ _) ad l.length c (tcells l) hx (tcells_len l) (hc ad rfl) (tcells_one l) (by unfold maxLen; omega) (by rw [Nat.zero_add]; exact hb) (Nat.le_refl _) (fun v' w' q1 q2 _ => ?_)
    rw [Nat.zero_add, List.nil_append] at q1
    exact h v' w' q1 (below_grown (Below.refl _ _) (Nat.le_refl _) q2 (fun r e => by simp [Value.ownBlock] at e))
theorem own_some {w : World} {base size n : Nat} {e : TypeId} {v : Value} {xs : List Value} (h : w.ownsRow base e size v n xs) (hn : 0 < n) : ∃ g cap, v = .slice (some ⟨g, 0, none⟩) n cap := by
  rcases h.2 with ⟨h', h0⟩ | ⟨g, cap', cur, h', _⟩
  · omega
  · exact ⟨g, cap', h'⟩
set_option maxHeartbeats 1000000 in
set_option maxRecDepth 100000 in
theorem room_r (l : List D3) (X : Option Addr) (c : Nat) (w : World) (hM : MarkOk w) (hd : DL w (.slice X l.length c) l) (hnil : X = none → c = 0) (hb : l.length * 24 ≤ 140737488351232) :
    Calls Tryd.prog 5 #[.slice X l.length c] w fun e w' => ∃ g cap, e = .returned (.slice (some ⟨g, 0, none⟩) (l.length + 1) cap) ∧ w'.ownsRow w.heap.size 27 3 (.slice (some ⟨g, 0, none⟩) (l.length + 1) cap) (l.length + 1) (tcells (l ++ [mk])) ∧ Below w.heap.size w w' := by
  have HD := Lib.hid hd
  have HN := Lib.hid hnil
  have HM := Lib.hid hM
  clear hd hnil hM
  obtain ⟨i0, hi, hz0, hz1, hz2⟩ := info_parts infoD
  go_enter Tryd.func5, Tryd.ntmps5
  go_upto_region 3 with (at_builtin; refine wpList_append_dates rfl (.tmp 4) (.tmp 5) rfl rfl rfl HD.out HN.out (by omega) ?_; intro v1 w1 hown hbel; have HO := Lib.hid hown; have HB := Lib.hid hbel; clear hown hbel)
  have m0 := (HM.out.below HB.out).c0
  have m1 := (HM.out.below HB.out).c1
  have m2 := (HM.out.below HB.out).c2
  have HO' : Hid (w1.ownsRow w.heap.size 27 3 v1 l.length (tcells l)) := HO
  go_wp2_with (at_builtin; refine wpList_append_own _ rfl (.tmp 7) (.tmp 9) 23 (by rfl) w.heap.size 27 i0 _ 3 24 Tryd.underlying23 hi hz0 hz1 hz2 rfl (by decide) v1 l.length (tcells l) rfl (HO'.out.alloc _) ⟨w1.heap.size, 0, none⟩ 1 1 [.int .i64 1, .int .i64 2, .int .i64 3] rfl rfl (World.news_of_block (World.alloc_heap_new _ _)) (tcells_one [mk]) (by simp only [maxLen]; omega) (by omega) (by have := HB.out.size; simp; omega) ?_; intro v2 w2 hown2 hgrow _; have HO2 := Lib.hid hown2; have HG2 := Lib.hid hgrow; clear hown2 hgrow)
  obtain ⟨g, cap, rfl⟩ := own_some HO2.out (by omega)
  go_ret
  refine ⟨g, cap, rfl, ?_, below_grown (HB.out.trans ((below_alloc (Below.refl _ _) _).mono HB.out.size)) (by have := HB.out.size; simp; omega) HG2.out (fun r e => own_base HO.out r e)⟩
  rw [tcells_app]
  exact HO2.out
end Go.Proofs.YtjifinacnofmiaaDoor.Ext
