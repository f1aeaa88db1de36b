/- The law's asked: every call with a rule whose lists have room behind them. -/
import Derived.Test.YtjifinacnofmiaaDoorCalRo
import Derived.Test.YtjifinacnofmiaaDoorCalRu
set_option linter.unusedVariables false
set_option linter.unusedSimpArgs false
namespace Go.Proofs.YtjifinacnofmiaaDoor.Ext
open Go Go.RowKit Go.Proofs.YtjifinacnofmiaaDoorW.PrintWords Go.Proofs.YtjifinacnofmiaaDoorW.PrintLast Go.Proofs.YtjifinacnofmiaaDoor.PCal Go.Proofs.YtjifinacnofmiaaDoor.GC Go.Proofs.YtjifinacnofmiaaDoor.CalP
/-- a list of days with the mark behind it -/
structure Rm (w : World) (b c : Nat) (l : List D3) : Prop where
  dq : DQ w (.slice (some ⟨b, 0, none⟩) l.length c) l
  cap : l.length + 1 ≤ c
  len : l.length * 24 ≤ 140737488351232
  m0 : w.cell? ⟨b, l.length * 3, none⟩ = some (.int .i64 1)
  m1 : w.cell? ⟨b, l.length * 3 + 1, none⟩ = some (.int .i64 2)
  m2 : w.cell? ⟨b, l.length * 3 + 2, none⟩ = some (.int .i64 3)
theorem Rm.below {w w' : World} {b c : Nat} {l : List D3} (h : Rm w b c l) (k : Below w.heap.size w w') : Rm w' b c l :=
  ⟨h.dq.below k, h.cap, h.len, cellB h.m0 k, cellB h.m1 k, cellB h.m2 k⟩
theorem own_Rm {w : World} {base b c : Nat} {l : List D3} (h : w.ownsRow base 27 3 (.slice (some ⟨b, 0, none⟩) (l.length + 1) c) (l.length + 1) (tcells (l ++ [mk]))) (hl : l.length * 24 ≤ 140737488351232) : Rm w b c l := by
  have hc : ∀ j, j < (l.length + 1) * 3 → w.cell? ⟨b, j, none⟩ = (tcells (l ++ [mk]))[j]? := fun j hj => h.cellAt j hj
  have hcap : l.length + 1 ≤ c := by
    rcases h.2 with ⟨h', _⟩ | ⟨g, cap', cur, h', _, _, hnc, _⟩
    · cases h'
    · injection h' with e1 e2 e3
      omega
  have hm := tcells_at (l ++ [mk]) l.length (by simp)
  simp only [List.getElem_append_right (Nat.le_refl _), Nat.sub_self, List.getElem_cons_zero] at hm
  refine ⟨⟨⟨some ⟨b, 0, none⟩, c, rfl, by omega, fun i hi => ⟨b, 0, rfl, ?_⟩⟩, fun x n c' e => ?_⟩, hcap, hl, (hc _ (by omega)).trans hm.1, (hc _ (by omega)).trans hm.2.1, (hc _ (by omega)).trans hm.2.2⟩
  · have hi' := tcells_at (l ++ [mk]) i (by simp; omega)
    simp only [List.getElem_append_left hi] at hi'
    rw [Nat.zero_add, hc _ (by omega), hc _ (by omega), hc _ (by omega)]
    exact hi'
  · injection e with e1 e2 e3
    omega
theorem dates_self (R : List S27) (k : Nat) (hk : R.length < k) (hR : R.length ≤ 4611686018427387903) : larderlaw03_dates.f k R R = some true := by
  unfold larderlaw03_dates.f
  rw [if_pos rfl]
  have key : ∀ (m i k : Nat), i + m = R.length → m < k → larderlaw03_dates.l0 k R R i = some true := by
    intro m
    induction m with
    | zero =>
      intro i k hi hk
      obtain ⟨k, rfl⟩ : ∃ q, k = q + 1 := ⟨k - 1, by omega⟩
      rw [larderlaw03_dates.l0, if_neg (by omega)]
    | succ m ih =>
      intro i k hi hk
      obtain ⟨k, rfl⟩ : ∃ q, k = q + 1 := ⟨k - 1, by omega⟩
      have e2 : wrap64 ((i : Int) + 1) = ((i + 1 : Nat) : Int) := by rw [w64 (by omega) (by omega)]; omega
      rw [larderlaw03_dates.l0, if_pos (by omega), if_pos (by omega), if_pos (by omega), e2, ih (i + 1) k (by omega) (by omega)]
      simp
  exact key R.length 0 k (by omega) (by omega)
theorem dates_r {w : World} {v1 v2 : Value} {l : List D3} (h1 : DQ w v1 l) (h2 : DQ w v2 l) (w' : World) (k : Below w.heap.size w w') : Calls Tryd.prog 16 #[v1, v2] w' fun e w'' => e = .returned (.bool true) ∧ Below w'.heap.size w' w'' := by
  have hl : l.length ≤ 4611686018427387903 := by obtain ⟨⟨_, _, _, h2, _⟩, _⟩ := h1; exact h2
  obtain ⟨x, c, rfl, hc, hk⟩ := (h1.below k).kd
  obtain ⟨x2, c2, rfl, hc2, hk2⟩ := (h2.below k).kd
  exact (larderlaw03_dates.calls ((l.map sD).length + 1) x c _ x2 c2 _ true w' hk hc hk2 hc2 (dates_self _ _ (by omega) (by rw [List.length_map]; exact hl))).mono fun e w'' h => ⟨h.1, h.2.below⟩
/-- what Move answers is one thing -/
theorem moveR_one {okR : Bool} {dy : Nat → Bool} {S E : List D3} {t : D3} {n : Int} {d d' : D3} {c c' : Int} (hk : okR = true → GoodR S E) (h : MoveR okR dy S E t n d c) (h' : MoveR okR dy S E t n d' c') : d = d' ∧ c = c' := by
  rcases h with ⟨a1, a2, a3⟩ | ⟨a1, a2, a3, a4⟩ | ⟨a1, a2, a3, a4, a5⟩ | ⟨a1, a2, a3, a4, a5, a6⟩ | ⟨a1, a2, a3, a4, a5, a6⟩ | ⟨a1, a2, a3, a4, a5, a6, a7⟩ | ⟨a1, a2, a3, a4, a5, a6, i, i0, i1, i2, i3, i4⟩ <;>
  rcases h' with ⟨b1, b2, b3⟩ | ⟨b1, b2, b3, b4⟩ | ⟨b1, b2, b3, b4, b5⟩ | ⟨b1, b2, b3, b4, b5, b6⟩ | ⟨b1, b2, b3, b4, b5, b6⟩ | ⟨b1, b2, b3, b4, b5, b6, b7⟩ | ⟨b1, b2, b3, b4, b5, b6, j, j0, j1, j2, j3, j4⟩ <;>
  first
    | (exfalso; first | (rw [a1] at b1; cases b1; done) | (rw [a2] at b2; cases b2; done) | (rw [a4] at b4; cases b4; done) | omega)
    | (subst_vars; exact ⟨rfl, rfl⟩)
    | skip
  have hg := hk a1
  have hz := bel_zero dy hg
  have e : i = j := least_day hg i0 j0 j1 i2 i3 (by
    rcases (show j = 0 ∨ 0 < j by omega) with q | q
    · rw [q, hz]
      omega
    · exact j2 q) (by
    rcases (show j = 3652424 ∨ j < 3652424 by omega) with q | q
    · rw [q]
      exact b5.2
    · exact j3 q)
  subst e
  exact ⟨i4.trans j4.symm, a6.trans b6.symm⟩
theorem own_far {w : World} {base size n : Nat} {e : TypeId} {v : Value} {xs : List Value} (h : w.ownsRow base e size v n xs) {p : Addr} (hp : p.block < base) (u : Value) : (w.setCell p u).ownsRow base e size v n xs := by
  obtain ⟨h1, h2⟩ := h
  refine ⟨h1, ?_⟩
  rcases h2 with h' | ⟨g, cap', cur, h', hb, hg, r⟩
  · exact .inl h'
  · exact .inr ⟨g, cap', cur, h', hb, (Below.heap_setCell w p u g (by omega)).trans hg, r⟩
theorem good_dec (S E : List D3) : ∃ b : Bool, b = true ↔ GoodP S E := by
  by_cases h : GoodP S E
  · exact ⟨true, fun _ => h, fun _ => rfl⟩
  · exact ⟨false, fun h => absurd h (by simp), fun h' => absurd h' h⟩
def askT : Bool × List (List Nat × List Nat) := (true, [])
attribute [local go_sem high] eqA27
set_option maxHeartbeats 8000000 in
set_option maxRecDepth 100000 in
theorem asked_r (w : World) (dy : Nat → Bool) (S E : List D3) (b1 b2 c1 c2 : Nat) (x y : Value) (d t : D3) (n : Int) (hG : GlobOk w) (hM : MarkOk w) (h1 : Rm w b1 c1 S) (h2 : Rm w b2 c2 E) :
    Calls Tryd.prog 6 #[.slice (some ⟨b1, 0, none⟩) (S.length + 1) c1, .slice (some ⟨b2, 0, none⟩) (E.length + 1) c2, rvV dy x y, vd d, vd t, .int .i64 n] w fun e w' => e = .returned (.bool true) ∧ Below w.heap.size w w' := by
  have HG := Lib.hid hG
  have HM := Lib.hid hM
  have H1 := Lib.hid h1
  have H2 := Lib.hid h2
  have l1 := h1.cap
  have l2 := h2.cap
  have s1 := h1.len
  have s2 := h2.len
  obtain ⟨m1, hm1⟩ : ∃ m, m = S.length + 1 := ⟨_, rfl⟩
  obtain ⟨m2, hm2⟩ : ∃ m, m = E.length + 1 := ⟨_, rfl⟩
  rw [← hm1, ← hm2]
  have e1 : IntKind.i64.wrap ((m1 : Int) - 1) = (S.length : Int) := by rw [show (m1 : Int) - 1 = (S.length : Int) by omega]; exact IntWalk.i64_in _ (by omega)
  have e2 : IntKind.i64.wrap ((m2 : Int) - 1) = (E.length : Int) := by rw [show (m2 : Int) - 1 = (E.length : Int) by omega]; exact IntWalk.i64_in _ (by omega)
  have q1 : (S.length : Int) < (m1 : Int) := by omega
  have q2 : (E.length : Int) < (m2 : Int) := by omega
  have q3 : (S.length : Int) ≤ (c1 : Int) := by omega
  have q4 : (E.length : Int) ≤ (c2 : Int) := by omega
  have q5 : (m1 : Int) ≤ (c1 : Int) := by omega
  have q6 : (m2 : Int) ≤ (c2 : Int) := by omega
  have s0 : (0 : Int) ≤ (S.length : Int) := Int.natCast_nonneg _
  have e0 : (0 : Int) ≤ (E.length : Int) := Int.natCast_nonneg _
  clear hm1 hm2
  clear hG hM h1 h2
  go_enter Tryd.func6, Tryd.ntmps6
  go_upto_region 4 with fail
  obtain ⟨W, hW⟩ : ∃ W, W = ((((w.alloc (.cells (rcells dy (.slice (some ⟨b1, 0, none⟩) S.length c1) (.slice (some ⟨b2, 0, none⟩) E.length c2)) 25)).alloc (.cells #[.int .i64 d.1, .int .i64 d.2.1, .int .i64 d.2.2] 27)).alloc (.cells #[.int .i64 t.1, .int .i64 t.2.1, .int .i64 t.2.2] 27)).alloc (.cells (rcells dy (.slice none 0 0) (.slice none 0 0)) 25)) := ⟨_, rfl⟩
  have hw := hW
  unfold rcells at hw
  rw [← hw]
  clear hw
  have sz : W.heap.size = w.heap.size + 4 := by rw [hW]; simp
  have k1 : Below w.heap.size w W := by
    rw [hW]
    exact below_alloc (below_alloc (below_alloc (below_alloc (Below.refl _ _) _) _) _) _
  have yr : W.heap[w.heap.size]? = some (.cells (rcells dy (.slice (some ⟨b1, 0, none⟩) S.length c1) (.slice (some ⟨b2, 0, none⟩) E.length c2)) 25 (0, 0)) := by
    rw [hW]
    exact (Below.heap_alloc _ _ _ (by simp <;> omega)).trans ((Below.heap_alloc _ _ _ (by simp <;> omega)).trans ((Below.heap_alloc _ _ _ (by simp)).trans (alnew w _)))
  have yd : Bx W (w.heap.size + 1) d := by
    rw [hW]
    refine (Below.heap_alloc _ _ _ (by simp <;> omega)).trans ((Below.heap_alloc _ _ _ (by simp)).trans ?_)
    have := alnew (w.alloc (.cells (rcells dy (.slice (some ⟨b1, 0, none⟩) S.length c1) (.slice (some ⟨b2, 0, none⟩) E.length c2)) 25)) (.cells #[.int .i64 d.1, .int .i64 d.2.1, .int .i64 d.2.2] 27)
    rw [World.size_alloc] at this
    exact this
  have yt : Bx W (w.heap.size + 1 + 1) t := by
    rw [hW]
    refine (Below.heap_alloc _ _ _ (by simp)).trans ?_
    have := alnew ((w.alloc (.cells (rcells dy (.slice (some ⟨b1, 0, none⟩) S.length c1) (.slice (some ⟨b2, 0, none⟩) E.length c2)) 25)).alloc (.cells #[.int .i64 d.1, .int .i64 d.2.1, .int .i64 d.2.2] 27)) (.cells #[.int .i64 t.1, .int .i64 t.2.1, .int .i64 t.2.2] 27)
    rw [World.size_alloc, World.size_alloc] at this
    exact this
  have HR0 : Hid (RB W W (w.heap.size + 1 + 1 + 1) dy (.slice none 0 0) (.slice none 0 0)) := Lib.hid ⟨rfl, rfl, rfl, Nat.le_refl _, fun _ _ _ => rfl, by
    rw [hW]
    have := alnew (((w.alloc (.cells (rcells dy (.slice (some ⟨b1, 0, none⟩) S.length c1) (.slice (some ⟨b2, 0, none⟩) E.length c2)) 25)).alloc (.cells #[.int .i64 d.1, .int .i64 d.2.1, .int .i64 d.2.2] 27)).alloc (.cells #[.int .i64 t.1, .int .i64 t.2.1, .int .i64 t.2.2] 27)) (.cells (rcells dy (.slice none 0 0) (.slice none 0 0)) 25)
    rw [World.size_alloc, World.size_alloc, World.size_alloc] at this
    exact this⟩
  have YR := Lib.hid yr
  have YD := Lib.hid yd
  have YT := Lib.hid yt
  have K1 := Lib.hid k1
  have SZ := Lib.hid sz
  have HDs := Lib.hid (H1.out.below k1).dq.dl
  have HDe := Lib.hid (H2.out.below k1).dq.dl
  have hc7 := HR0.out.c7
  have hr7 : W.cell? ⟨w.heap.size, 7, none⟩ = some (.slice (some ⟨b1, 0, none⟩) S.length c1) := by rw [cell_of_row _ _ _ _ _ _ yr]; rfl
  clear hW yr yd yt k1 sz
  go_upto_region 5 with (at_builtin; refine wpList_append_dates rfl (.tmp 42) (.tmp 44) rfl rfl rfl HDs.out (fun h => by cases h) (by omega) ?_; intro v1 w1 hown hbel; obtain ⟨a1, p1, rfl⟩ := own_shape hown; have HO1 := Lib.hid hown; have HB1 := Lib.hid hbel; clear hown hbel; have HR1 := Lib.hid (HR0.out.below HB1.out); have hfr := HR1.out.free 7; have hcl := HR1.out.c7)
  obtain ⟨X, hX⟩ : ∃ X, X = w1.setCell ⟨w.heap.size + 1 + 1 + 1, 7, none⟩ (.slice a1 S.length p1) := ⟨_, rfl⟩
  rw [← hX]
  have HRX : Hid (RB W X (w.heap.size + 1 + 1 + 1) dy (.slice a1 S.length p1) (.slice none 0 0)) := Lib.hid (by rw [hX]; exact HR1.out.put 7 (.slice a1 S.length p1) dy (.slice a1 S.length p1) _ rfl)
  have HOX : Hid (X.ownsRow W.heap.size 27 3 (.slice a1 S.length p1) S.length (tcells S)) := Lib.hid (by rw [hX]; exact own_far HO1.out (by show w.heap.size + 1 + 1 + 1 < W.heap.size; have := SZ.out; omega) _)
  clear hX hfr hcl HR1 hc7 hr7
  have hkeep : ∀ (Z : World) (v1 v2 : Value), RB W Z (w.heap.size + 1 + 1 + 1) dy v1 v2 → Below (w.heap.size + 1 + 1 + 1) W Z := fun Z v1 v2 h => ⟨h.os, h.tape, h.output, by have := h.size; have := SZ.out; omega, fun j hj => h.keep j (by have := SZ.out; omega) (by omega)⟩
  have HKP := Lib.hid hkeep
  clear hkeep
  have kx0 := HKP.out _ _ _ HRX.out
  have KX := Lib.hid (K1.out.trans (kx0.mono (by omega)))
  have HDx := Lib.hid (H2.out.below KX.out).dq.dl
  have hc8 := HRX.out.c8
  have hr8 : X.cell? ⟨w.heap.size, 8, none⟩ = some (.slice (some ⟨b2, 0, none⟩) E.length c2) := by
    have e : X.heap[w.heap.size]? = _ := (HRX.out.keep _ (by have := SZ.out; omega) (by omega)).trans YR.out
    rw [cell_of_row _ _ _ _ _ _ e]
    rfl
  clear kx0
  go_upto_region 6 with (at_builtin; refine wpList_append_dates rfl (.tmp 48) (.tmp 50) rfl rfl rfl HDx.out (fun h => by cases h) (by omega) ?_; intro v2 w2 hown hbel; obtain ⟨a2, p2, rfl⟩ := own_shape hown; have HO2 := Lib.hid hown; have HB2 := Lib.hid hbel; clear hown hbel; have HR2 := Lib.hid (HRX.out.below HB2.out); have hfr := HR2.out.free 8; have hcl := HR2.out.c8)
  obtain ⟨Y, hY⟩ : ∃ Y, Y = w2.setCell ⟨w.heap.size + 1 + 1 + 1, 8, none⟩ (.slice a2 E.length p2) := ⟨_, rfl⟩
  rw [← hY]
  have HRY : Hid (RB W Y (w.heap.size + 1 + 1 + 1) dy (.slice a1 S.length p1) (.slice a2 E.length p2)) := Lib.hid (by rw [hY]; exact HR2.out.put 8 (.slice a2 E.length p2) dy _ (.slice a2 E.length p2) rfl)
  have hsx : W.heap.size ≤ X.heap.size := HRX.out.size
  have HQ1 : Hid (DQ Y (.slice a1 S.length p1) S) := Lib.hid (by
    refine own_DQ (base := W.heap.size) (n := 0) ?_ (by omega)
    rw [hY]
    exact own_far (own_below HOX.out HB2.out) (by show w.heap.size + 1 + 1 + 1 < W.heap.size; have := SZ.out; omega) _)
  have HQ2 : Hid (DQ Y (.slice a2 E.length p2) E) := Lib.hid (by
    refine own_DQ (base := X.heap.size) (n := 0) ?_ (by omega)
    rw [hY]
    exact own_far HO2.out (by show w.heap.size + 1 + 1 + 1 < X.heap.size; have := SZ.out; omega) _)
  have ky0 := HKP.out _ _ _ HRY.out
  have KY := Lib.hid (K1.out.trans (ky0.mono (by omega)))
  have hyr : Y.heap[w.heap.size]? = _ := (HRY.out.keep _ (by have := SZ.out; omega) (by omega)).trans YR.out
  have hyd : Bx Y (w.heap.size + 1) d := (HRY.out.keep _ (by have := SZ.out; omega) (by omega)).trans YD.out
  have hyt : Bx Y (w.heap.size + 1 + 1) t := (HRY.out.keep _ (by have := SZ.out; omega) (by omega)).trans YT.out
  clear hY hfr hcl HR2 hc8 hr8 ky0 HB1 HB2 HO1 HO2 HOX HRX HDs HDe HDx KX HKP YR YD YT K1 hsx HR0
  have HXX : Hid (∀ w', Below Y.heap.size Y w' → _) := Lib.hid fun w' k =>
    (⟨rcells_all ((k.block _ (Array.getElem?_eq_some_iff.1 hyr).1).trans hyr), rcells_all ((k.block _ (Array.getElem?_eq_some_iff.1 HRY.out.blk).1).trans HRY.out.blk), hyd.b3 k, hyt.b3 k⟩ : _ ∧ _ ∧ _ ∧ _)
  obtain ⟨okR, hok⟩ := good_dec S E
  have hGY : GlobOk Y := HG.out.below KY.out
  have hS := (H1.out.below KY.out).dq
  have hE := (H2.out.below KY.out).dq
  have hgr : okR = true → GoodR S E := fun h => goodP_R (hok.1 h)
  have HOp : Hid (∀ w', Below Y.heap.size Y w' → _) := Lib.hid fun w' k => Open_r w' dy _ _ S E d okR (hGY.below k) (hS.below k).dl (hE.below k).dl (fun w1 k1 => goodg_r w1 dy _ _ S E okR ((hGY.below k).below k1) ((hS.below k).below k1).dl ((hE.below k).below k1).dl hok) hgr
  have HMv : Hid (∀ w', Below Y.heap.size Y w' → _) := Lib.hid fun w' k => Move_r w' dy _ _ S E d n okR (hGY.below k) (hS.below k).dl (hE.below k).dl (fun w1 k1 => goodg_r w1 dy _ _ S E okR ((hGY.below k).below k1) ((hS.below k).below k1).dl ((hE.below k).below k1).dl hok) hgr
  have HCn : Hid (∀ w', Below Y.heap.size Y w' → _) := Lib.hid fun w' k => Count_r w' dy _ _ S E d t okR (hGY.below k) (hS.below k).dl (hE.below k).dl (fun w1 k1 => goodg_r w1 dy _ _ S E okR ((hGY.below k).below k1) ((hS.below k).below k1).dl ((hE.below k).below k1).dl hok) hgr
  have HrO : Hid (∀ w', Below Y.heap.size Y w' → _) := Lib.hid fun w' k => rOpen_r w' dy _ _ S E d okR (HQ1.out.below k) (HQ2.out.below k) hok
  have HrM : Hid (∀ w', Below Y.heap.size Y w' → _) := Lib.hid fun w' k => rMove_r w' dy _ _ S E d n okR (HQ1.out.below k) (HQ2.out.below k) hok
  have HrC : Hid (∀ w', Below Y.heap.size Y w' → _) := Lib.hid fun w' k => rCount_r w' dy _ _ S E d t okR (HQ1.out.below k) (HQ2.out.below k) hok
  have HD1 : Hid (∀ w', Below Y.heap.size Y w' → _) := Lib.hid fun w' k => dates_r hS HQ1.out w' k
  have HD2 : Hid (∀ w', Below Y.heap.size Y w' → _) := Lib.hid fun w' k => dates_r hE HQ2.out w' k
  have HOne : Hid (∀ {d1 d2 : D3} {c1 c2 : Int}, MoveR okR dy S E d n d1 c1 → MoveR okR dy S E d n d2 c2 → d1 = d2 ∧ c1 = c2) := Lib.hid (fun a b => moveR_one hgr a b)
  have HMk : Hid (∀ w', Below Y.heap.size Y w' → _) := Lib.hid fun w' k => (⟨(HM.out.below KY.out).below k, (H1.out.below KY.out).below k, (H2.out.below KY.out).below k⟩ : _ ∧ _ ∧ _)
  clear hGY hS hE hgr hyr hyd hyt hok HQ1 HQ2 HRY HG HM H1 H2 SZ
  generalize openF okR dy S E d = op at *
  generalize countF okR dy S E d t = cn at *
  obtain ⟨⟨r0, r1, r2, r3, r4, r5, r6, r7, r8⟩, ⟨o0, o1, o2, o3, o4, o5, o6, o7, o8⟩, ⟨d0, d1, d2⟩, t0, t1, t2⟩ := HXX.out Y (Below.refl _ _)
  go_upto_region 9 with (first
    | (go_at_call 11; (with_reducible refine (HOp.out _ (Below.refl _ _)).mono ?_); rintro ev w3 ⟨rfl, hb⟩; have HB3 := Lib.hid hb; clear hb; obtain ⟨⟨r0, r1, r2, r3, r4, r5, r6, r7, r8⟩, ⟨o0, o1, o2, o3, o4, o5, o6, o7, o8⟩, ⟨d0, d1, d2⟩, t0, t1, t2⟩ := HXX.out _ HB3.out)
    | (go_at_call 13; (with_reducible refine (HrO.out _ HB3.out).mono ?_); rintro ev w4 ⟨rfl, hb⟩; have HB4 := Lib.hid (below_step HB3.out hb); clear hb; obtain ⟨⟨r0, r1, r2, r3, r4, r5, r6, r7, r8⟩, ⟨o0, o1, o2, o3, o4, o5, o6, o7, o8⟩, ⟨d0, d1, d2⟩, t0, t1, t2⟩ := HXX.out _ HB4.out)
    | (go_at_call 12; (with_reducible refine (HMv.out _ HB4.out).mono ?_); rintro ev w5 ⟨md, mc, hmv, rfl, hb⟩; have HMV := Lib.hid hmv; clear hmv; have HB5 := Lib.hid (below_step HB4.out hb); clear hb))
  obtain ⟨Z, hZ⟩ : ∃ Z, Z = w5.alloc (.cells #[.int .i64 md.1, .int .i64 md.2.1, .int .i64 md.2.2] 27) := ⟨_, rfl⟩
  rw [← hZ]
  have kz : Below w5.heap.size w5 Z := by rw [hZ]; exact below_alloc (Below.refl _ _) _
  have yz : Bx Z w5.heap.size md := by rw [hZ]; exact alnew w5 _
  have HBZ := Lib.hid (below_step HB5.out kz)
  have HYZ := Lib.hid yz
  clear hZ kz yz HB3 HB4 r0 r1 r2 r3 r4 r5 r6 r7 r8 o0 o1 o2 o3 o4 o5 o6 o7 o8 d0 d1 d2 t0 t1 t2
  obtain ⟨⟨r0, r1, r2, r3, r4, r5, r6, r7, r8⟩, ⟨o0, o1, o2, o3, o4, o5, o6, o7, o8⟩, ⟨d0, d1, d2⟩, t0, t1, t2⟩ := HXX.out _ HBZ.out
  go_upto_region 10 with (first
    | (go_at_call 14; (with_reducible refine (HrM.out _ HBZ.out).mono ?_); rintro ev w6 ⟨md', mc', hmv, rfl, hb⟩; obtain ⟨e1', e2'⟩ := HOne.out HMV.out hmv; subst e1'; subst e2'; clear hmv; have HZ6 := Lib.hid hb; have HB6 := Lib.hid (below_step HBZ.out hb); clear hb))
  obtain ⟨U, hU⟩ : ∃ U, U = w6.alloc (.cells #[.int .i64 md.1, .int .i64 md.2.1, .int .i64 md.2.2] 27) := ⟨_, rfl⟩
  rw [← hU]
  have ku : Below w6.heap.size w6 U := by rw [hU]; exact below_alloc (Below.refl _ _) _
  have yu : Bx U w6.heap.size md := by rw [hU]; exact alnew w6 _
  have HBU := Lib.hid (below_step HB6.out ku)
  have HYU : Hid (Bx U w6.heap.size md ∧ Bx U w5.heap.size md) := Lib.hid ⟨yu, HYZ.out.below (below_step HZ6.out ku)⟩
  clear hU ku yu HYZ HZ6 HMV HB6 HBZ HB5 r0 r1 r2 r3 r4 r5 r6 r7 r8 o0 o1 o2 o3 o4 o5 o6 o7 o8 d0 d1 d2 t0 t1 t2
  obtain ⟨⟨r0, r1, r2, r3, r4, r5, r6, r7, r8⟩, ⟨o0, o1, o2, o3, o4, o5, o6, o7, o8⟩, ⟨d0, d1, d2⟩, t0, t1, t2⟩ := HXX.out _ HBU.out
  go_upto_region 12 with (first
    | (go_at_call 9; (with_reducible refine (HCn.out _ HBU.out).mono ?_); rintro ev w7 ⟨rfl, hb⟩; have HZ7 := Lib.hid hb; have HB7 := Lib.hid (below_step HBU.out hb); clear hb; obtain ⟨⟨r0, r1, r2, r3, r4, r5, r6, r7, r8⟩, ⟨o0, o1, o2, o3, o4, o5, o6, o7, o8⟩, ⟨d0, d1, d2⟩, t0, t1, t2⟩ := HXX.out _ HB7.out)
    | (go_at_call 15; (with_reducible refine (HrC.out _ HB7.out).mono ?_); rintro ev w8 ⟨rfl, hb⟩; have HZ8 := Lib.hid (below_step HZ7.out hb); have HB8 := Lib.hid (below_step HB7.out hb); clear hb))
  obtain ⟨u0, u1, u2⟩ := HYU.out.1.b3 HZ8.out
  obtain ⟨z0, z1, z2⟩ := HYU.out.2.b3 HZ8.out
  clear r0 r1 r2 r3 r4 r5 r6 r7 r8 o0 o1 o2 o3 o4 o5 o6 o7 o8 d0 d1 d2 t0 t1 t2
  go_wp2_with fail
  clear u0 u1 u2 z0 z1 z2
  have HL : Hid (∀ w', Below Y.heap.size Y w' → w'.cell? ⟨w.heap.size, 7, none⟩ = some (.slice (some ⟨b1, 0, none⟩) S.length c1) ∧ w'.cell? ⟨w.heap.size, 8, none⟩ = some (.slice (some ⟨b2, 0, none⟩) E.length c2) ∧ w'.cell? ⟨w.heap.size + 1 + 1 + 1, 7, none⟩ = some (.slice a1 S.length p1) ∧ w'.cell? ⟨w.heap.size + 1 + 1 + 1, 8, none⟩ = some (.slice a2 E.length p2) ∧ w'.cell? ⟨b1, S.length * 3, none⟩ = some (.int .i64 1) ∧ w'.cell? ⟨b1, S.length * 3 + 1, none⟩ = some (.int .i64 2) ∧ w'.cell? ⟨b1, S.length * 3 + 2, none⟩ = some (.int .i64 3) ∧ w'.cell? ⟨b2, E.length * 3, none⟩ = some (.int .i64 1) ∧ w'.cell? ⟨b2, E.length * 3 + 1, none⟩ = some (.int .i64 2) ∧ w'.cell? ⟨b2, E.length * 3 + 2, none⟩ = some (.int .i64 3) ∧ w'.cell? ⟨0, 0, none⟩ = some (.int .i64 1) ∧ w'.cell? ⟨0, 1, none⟩ = some (.int .i64 2) ∧ w'.cell? ⟨0, 2, none⟩ = some (.int .i64 3)) := Lib.hid fun w' k => by
    obtain ⟨⟨_, _, _, _, _, _, _, q7, q8⟩, ⟨_, _, _, _, _, _, _, q9, q10⟩, _⟩ := HXX.out _ k
    obtain ⟨mk0, mk1, mk2⟩ := HMk.out _ k
    exact ⟨q7, q8, q9, q10, mk1.m0, mk1.m1, mk1.m2, mk2.m0, mk2.m1, mk2.m2, mk0.c0, mk0.c1, mk0.c2⟩
  have hb0 := HB8.out.drew
  go_region_held3 (fun w' => w'.cell? ⟨w.heap.size, 7, none⟩ = some (.slice (some ⟨b1, 0, none⟩) S.length c1) ∧ w'.cell? ⟨w.heap.size, 8, none⟩ = some (.slice (some ⟨b2, 0, none⟩) E.length c2) ∧ w'.cell? ⟨w.heap.size + 1 + 1 + 1, 7, none⟩ = some (.slice a1 S.length p1) ∧ w'.cell? ⟨w.heap.size + 1 + 1 + 1, 8, none⟩ = some (.slice a2 E.length p2) ∧ w'.cell? ⟨b1, S.length * 3, none⟩ = some (.int .i64 1) ∧ w'.cell? ⟨b1, S.length * 3 + 1, none⟩ = some (.int .i64 2) ∧ w'.cell? ⟨b1, S.length * 3 + 2, none⟩ = some (.int .i64 3) ∧ w'.cell? ⟨b2, E.length * 3, none⟩ = some (.int .i64 1) ∧ w'.cell? ⟨b2, E.length * 3 + 1, none⟩ = some (.int .i64 2) ∧ w'.cell? ⟨b2, E.length * 3 + 2, none⟩ = some (.int .i64 3) ∧ w'.cell? ⟨0, 0, none⟩ = some (.int .i64 1) ∧ w'.cell? ⟨0, 1, none⟩ = some (.int .i64 2) ∧ w'.cell? ⟨0, 2, none⟩ = some (.int .i64 3)) (exact HL.out _ (by assumption)) (first
    | (go_at_call 16; (with_reducible refine (HD1.out _ hb0).mono ?_); rintro ev w9 ⟨rfl, hb⟩; have hb1 := below_step hb0 hb; clear hb)
    | (go_at_call 16; (with_reducible refine (HD2.out _ hb1).mono ?_); rintro ev w10 ⟨rfl, hb⟩; have hb2 := below_step hb1 hb; clear hb))
  go_wp2_with fail
  go_ret
  exact ⟨rfl, KY.out.trans (hb2.mono KY.out.size)⟩
end Go.Proofs.YtjifinacnofmiaaDoor.Ext
