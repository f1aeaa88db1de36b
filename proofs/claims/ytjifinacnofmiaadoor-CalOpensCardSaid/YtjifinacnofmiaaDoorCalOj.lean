-- joined out of the texts CalOpw CalOr
import Derived.Test.YtjifinacnofmiaaDoorCalRq
import Derived.Deep.Slices
import Derived.ChangeArms
import Derived.ChangeSlices
import Derived.SizedLaws
import Derived.OpenShut
set_option linter.unusedVariables false
set_option linter.unusedSimpArgs false
namespace Go.Proofs.YtjifinacnofmiaaDoor.Ext
open Go Go.RowKit Go.Proofs.YtjifinacnofmiaaDoorW.PrintWords Go.Proofs.YtjifinacnofmiaaDoorW.PrintLast Go.Proofs.YtjifinacnofmiaaDoor.PCal Go.Proofs.YtjifinacnofmiaaDoor.GC Go.Proofs.YtjifinacnofmiaaDoor.CalP
theorem own_other {w : World} {base size n c g m : Nat} {e : TypeId} {xs : List Value} (h : w.ownsRow base e size (.slice (some ⟨g, 0, none⟩) m c) n xs) {p : Addr} (hp : g ≠ p.block) (u : Value) : (w.setCell p u).ownsRow base e size (.slice (some ⟨g, 0, none⟩) m c) n xs := by
  obtain ⟨h1, h2⟩ := h
  refine ⟨h1, ?_⟩
  rcases h2 with ⟨h', _⟩ | ⟨g', cap', cur, h', hb, hg, r⟩
  · cases h'
  · have e1 : g = g' := by injection h' with e1; exact congrArg Addr.block (Option.some.inj e1)
    exact .inr ⟨g', cap', cur, h', hb, (Below.heap_setCell w p u g' (by omega)).trans hg, r⟩
theorem tcells_set : ∀ (l : List D3) (i : Nat) (t : D3), i < l.length → tcells (l.set i t) = (((tcells l).set (i * 3) (.int .i64 t.1)).set (i * 3 + 1) (.int .i64 t.2.1)).set (i * 3 + 2) (.int .i64 t.2.2)
  | [], i, t, h => absurd h (by simp)
  | x :: l, 0, t, h => rfl
  | x :: l, i + 1, t, h => by
    have ih := tcells_set l i t (by simpa using h)
    have e : ∀ m : List D3, tcells (x :: m) = .int .i64 x.1 :: .int .i64 x.2.1 :: .int .i64 x.2.2 :: tcells m := fun _ => rfl
    rw [List.set_cons_succ, e, e, ih, show (i + 1) * 3 = i * 3 + 3 by omega]
    rfl
/-- a day is written over -/
theorem own_set {w : World} {base g m c : Nat} {l : List D3} (h : w.ownsRow base 27 3 (.slice (some ⟨g, 0, none⟩) m c) m (tcells l)) (hm : m = l.length) (i : Nat) (hi : i < l.length) (t : D3) :
    (((w.setCell ⟨g, i * 3, none⟩ (.int .i64 t.1)).setCell ⟨g, i * 3 + 1, none⟩ (.int .i64 t.2.1)).setCell ⟨g, i * 3 + 2, none⟩ (.int .i64 t.2.2)).ownsRow base 27 3 (.slice (some ⟨g, 0, none⟩) m c) m (tcells (l.set i t)) := by
  subst hm
  rw [tcells_set l i t hi]
  exact ((((h.stored (i * 3) (.int .i64 t.1)).1).stored (i * 3 + 1) (.int .i64 t.2.1)).1.stored (i * 3 + 2) (.int .i64 t.2.2)).1
theorem own_free {w : World} {base g m c : Nat} {l : List D3} (h : w.ownsRow base 27 3 (.slice (some ⟨g, 0, none⟩) m c) m (tcells l)) (hm : m = l.length) (i : Nat) (hi : i < l.length) :
    (w.frozen? ⟨g, i * 3, none⟩ = false ∧ w.frozen? ⟨g, i * 3 + 1, none⟩ = false ∧ w.frozen? ⟨g, i * 3 + 2, none⟩ = false) ∧ w.cell? ⟨g, i * 3, none⟩ = some (.int .i64 l[i].1) ∧ w.cell? ⟨g, i * 3 + 1, none⟩ = some (.int .i64 l[i].2.1) ∧ w.cell? ⟨g, i * 3 + 2, none⟩ = some (.int .i64 l[i].2.2) := by
  subst hm
  obtain ⟨a, b, c⟩ := tcells_at l i hi
  exact ⟨⟨h.frozenAt _, h.frozenAt _, h.frozenAt _⟩, (h.cellAt _ (by omega)).trans a, (h.cellAt _ (by omega)).trans b, (h.cellAt _ (by omega)).trans c⟩
theorem own_lt_block {w : World} {base size n m c g : Nat} {e : TypeId} {xs : List Value} (h : w.ownsRow base e size (.slice (some ⟨g, 0, none⟩) m c) n xs) : base ≤ g ∧ g < w.heap.size := by
  rcases h.2 with ⟨h', _⟩ | ⟨g', cap', cur, h', hb, hg, _⟩
  · cases h'
  · have e1 : g = g' := by injection h' with e1; exact congrArg Addr.block (Option.some.inj e1)
    rw [e1]
    exact ⟨hb, (Array.getElem?_eq_some_iff.1 hg).1⟩
set_option maxHeartbeats 16000000 in
set_option maxRecDepth 100000 in
theorem calOpens_r (w : World) (dy : Nat → Bool) (S E : List D3) (X1 X2 : Option Addr) (c1 c2 : Nat) (d t : D3) (n : Int) (hG : GlobOk w) (hM : MarkOk w) (hS : DL w (.slice X1 S.length c1) S) (hE : DL w (.slice X2 E.length c2) E) (hn1 : X1 = none → c1 = 0) (hn2 : X2 = none → c2 = 0)
    (s1 : S.length * 24 ≤ 140737488351232) (s2 : E.length * 24 ≤ 140737488351232) :
    Calls Tryd.prog 3 #[rvV dy (.slice X1 S.length c1) (.slice X2 E.length c2), vd d, vd t, .int .i64 n] w fun e w' => e = .returned (.bool true) ∧ Below w.heap.size w w' := by
  obtain ⟨m1, hm1⟩ : ∃ m, m = S.length + 1 := ⟨_, rfl⟩
  obtain ⟨m2, hm2⟩ : ∃ m, m = E.length + 1 := ⟨_, rfl⟩
  obtain ⟨W, hW⟩ : ∃ W, W = (((w.alloc (.cells (rcells dy (.slice X1 S.length c1) (.slice X2 E.length c2)) 25)).alloc (.cells #[.int .i64 d.1, .int .i64 d.2.1, .int .i64 d.2.2] 27)).alloc (.cells #[.int .i64 t.1, .int .i64 t.2.1, .int .i64 t.2.2] 27)) := ⟨_, rfl⟩
  have k1 : Below w.heap.size w W := by
    rw [hW]
    exact below_alloc (below_alloc (below_alloc (Below.refl _ _) _) _) _
  have yr : W.heap[w.heap.size]? = some (.cells (rcells dy (.slice X1 S.length c1) (.slice X2 E.length c2)) 25 (0, 0)) := by
    rw [hW]
    exact (Below.heap_alloc _ _ _ (by simp <;> omega)).trans ((Below.heap_alloc _ _ _ (by simp)).trans (alnew w _))
  have yd : Bx W (w.heap.size + 1) d := by
    rw [hW]
    refine (Below.heap_alloc _ _ _ (by simp)).trans ?_
    have := alnew (w.alloc (.cells (rcells dy (.slice X1 S.length c1) (.slice X2 E.length c2)) 25)) (.cells #[.int .i64 d.1, .int .i64 d.2.1, .int .i64 d.2.2] 27)
    rw [World.size_alloc] at this
    exact this
  have yt : Bx W (w.heap.size + 1 + 1) t := by
    rw [hW]
    have := alnew ((w.alloc (.cells (rcells dy (.slice X1 S.length c1) (.slice X2 E.length c2)) 25)).alloc (.cells #[.int .i64 d.1, .int .i64 d.2.1, .int .i64 d.2.2] 27)) (.cells #[.int .i64 t.1, .int .i64 t.2.1, .int .i64 t.2.2] 27)
    rw [World.size_alloc, World.size_alloc] at this
    exact this
  have HXX : Hid (∀ w', Below W.heap.size W w' → _) := Lib.hid fun w' k => (⟨rcells_all ((k.block _ (Array.getElem?_eq_some_iff.1 yr).1).trans yr), yd.b3 k, yt.b3 k⟩ : _ ∧ _ ∧ _)
  have HRo1 : Hid (∀ w', Below W.heap.size W w' → Calls Tryd.prog 5 #[.slice X1 S.length c1] w' fun e w'' => ∃ g cap, e = .returned (.slice (some ⟨g, 0, none⟩) m1 cap) ∧ w''.ownsRow w'.heap.size 27 3 (.slice (some ⟨g, 0, none⟩) m1 cap) m1 (tcells (S ++ [mk])) ∧ Below w'.heap.size w' w'') := Lib.hid fun w' k => by
    have k' := k1.trans (k.mono k1.size)
    rw [hm1]
    exact room_r S X1 c1 w' (hM.below k') (hS.below k') hn1 s1
  have HRo2 : Hid (∀ w', Below W.heap.size W w' → Calls Tryd.prog 5 #[.slice X2 E.length c2] w' fun e w'' => ∃ g cap, e = .returned (.slice (some ⟨g, 0, none⟩) m2 cap) ∧ w''.ownsRow w'.heap.size 27 3 (.slice (some ⟨g, 0, none⟩) m2 cap) m2 (tcells (E ++ [mk])) ∧ Below w'.heap.size w' w'') := Lib.hid fun w' k => by
    have k' := k1.trans (k.mono k1.size)
    rw [hm2]
    exact room_r E X2 c2 w' (hM.below k') (hE.below k') hn2 s2
  have HAs : Hid (∀ (S' E' : List D3) (g1 g2 p1 p2 b1 b2 : Nat) w', S'.length = S.length → E'.length = E.length → Below W.heap.size W w' → w'.ownsRow b1 27 3 (.slice (some ⟨g1, 0, none⟩) m1 p1) m1 (tcells (S' ++ [mk])) → w'.ownsRow b2 27 3 (.slice (some ⟨g2, 0, none⟩) m2 p2) m2 (tcells (E' ++ [mk])) →
      Calls Tryd.prog 6 #[.slice (some ⟨g1, 0, none⟩) m1 p1, .slice (some ⟨g2, 0, none⟩) m2 p2, rvV dy (.slice X1 S.length c1) (.slice X2 E.length c2), vd d, vd t, .int .i64 n] w' fun e w'' => e = .returned (.bool true) ∧ Below w'.heap.size w' w'') := Lib.hid fun S' E' g1 g2 p1 p2 b1 b2 w' l1 l2 k q1 q2 => by
    have k' := k1.trans (k.mono k1.size)
    rw [hm1, ← l1] at q1
    rw [hm2, ← l2] at q2
    have := asked_r w' dy S' E' g1 g2 p1 p2 (.slice X1 S.length c1) (.slice X2 E.length c2) d t n (hG.below k') (hM.below k') (own_Rm q1 (by omega)) (own_Rm q2 (by omega))
    rw [l1, l2, ← hm1, ← hm2] at this
    exact this
  have K1 := Lib.hid k1
  have HW := Lib.hid hW
  have SZ : Hid (W.heap.size = w.heap.size + 3) := Lib.hid (by rw [hW]; simp)
  have HM1 := Lib.hid hm1
  have HM2 := Lib.hid hm2
  obtain ⟨⟨r0, r1, r2, r3, r4, r5, r6, r7, r8⟩, ⟨d0, d1, d2⟩, t0, t1, t2⟩ := HXX.out W (Below.refl _ _)
  clear hG hM hS hE hn1 hn2 k1 yr yd yt hW
  have bm1 : (m1 : Int) ≤ 9223372036854775807 := by omega
  have bm2 : (m2 : Int) ≤ 9223372036854775807 := by omega
  go_enter Tryd.func3, Tryd.ntmps3
  go_upto_region 1 with fail
  have hw := HW.out
  unfold rcells at hw
  rw [← hw]
  clear hw HW
  clear hm1 hm2
  go_upto_region 4 with (first
    | (go_at_call 5; (with_reducible refine (HRo1.out _ (Below.refl _ _)).mono ?_); rintro ev w2 ⟨g1, p1, rfl, hown, hb⟩; have HO1 := Lib.hid hown; have HB := Lib.hid hb; clear hb hown; obtain ⟨⟨r0, r1, r2, r3, r4, r5, r6, r7, r8⟩, ⟨d0, d1, d2⟩, t0, t1, t2⟩ := HXX.out _ HB.out)
    | (go_at_call 5; (with_reducible refine (HRo2.out _ HB.out).mono ?_); rintro ev w3 ⟨g2, p2, rfl, hown, hb⟩; have HO2 := Lib.hid hown; have HO1' := Lib.hid (own_below HO1.out hb); have HB2 := Lib.hid (below_step HB.out hb); clear hb hown; obtain ⟨⟨r0, r1, r2, r3, r4, r5, r6, r7, r8⟩, ⟨d0, d1, d2⟩, t0, t1, t2⟩ := HXX.out _ HB2.out)
    | (go_at_call 6; (with_reducible refine (HAs.out S E _ _ _ _ _ _ _ rfl rfl HB2.out HO1'.out HO2.out).mono ?_); rintro ev w4 ⟨rfl, hb⟩; have HP1 := Lib.hid (own_below HO1'.out hb); have HP2 := Lib.hid (own_below HO2.out hb); have HB3 := Lib.hid (below_step HB2.out hb); clear hb; obtain ⟨⟨r0, r1, r2, r3, r4, r5, r6, r7, r8⟩, ⟨d0, d1, d2⟩, t0, t1, t2⟩ := HXX.out _ HB3.out))
  have HL1 : Hid (W.heap.size ≤ g1 ∧ g1 < g2 ∧ W.heap.size ≤ g2) := Lib.hid (by
    have a := own_lt_block HO1.out
    have b := own_lt_block HO2.out
    have c := HB.out.size
    omega)
  clear HO1 HO2 HO1' HB HB2
  by_cases h1 : 0 < S.length
  · have z1 : decide (1 < (m1 : Int)) = true := decide_eq_true (by have := HM1.out; omega)
    have z1' : decide ((m1 : Int) > 1) = true := z1
    have z1'' : decide (1 < m1) = true := decide_eq_true (by have := HM1.out; omega)
    have j1 : (0 : Int) < (m1 : Int) := by have := HM1.out; omega
    obtain ⟨⟨f0, f1, f2⟩, x0, x1, x2⟩ := own_free HP1.out (by have := HM1.out; simp; omega) 0 (by simp)
    go_upto_region 8 with fail
    obtain ⟨A, hA⟩ : ∃ A, A = ((w4.setCell ⟨g1, 0, none⟩ (.int .i64 d.1)).setCell ⟨g1, 1, none⟩ (.int .i64 d.2.1)).setCell ⟨g1, 2, none⟩ (.int .i64 d.2.2) := ⟨_, rfl⟩
    rw [← hA]
    have HS2 : Hid (A.ownsRow _ 27 3 (.slice (some ⟨g1, 0, none⟩) m1 p1) m1 (tcells (S.set 0 d ++ [mk]))) := Lib.hid (by
      rw [hA, ← List.set_append_left _ _ (by omega)]
      exact own_set HP1.out (by have := HM1.out; simp; omega) 0 (by simp) d)
    have HE2 : Hid (A.ownsRow _ 27 3 (.slice (some ⟨g2, 0, none⟩) m2 p2) m2 (tcells (E ++ [mk]))) := Lib.hid (by
      rw [hA]
      have hne : g2 ≠ g1 := by have := HL1.out; omega
      exact own_other (own_other (own_other HP2.out (by exact hne) _) (by exact hne) _) (by exact hne) _)
    have HBA : Hid (Below W.heap.size W A) := Lib.hid (by
      rw [hA]
      have := HL1.out
      exact ((HB3.out.setCell (by show W.heap.size ≤ g1; omega) _).setCell (by show W.heap.size ≤ g1; omega) _).setCell (by show W.heap.size ≤ g1; omega) _)
    have HLS : Hid ((S.set 0 d).length = S.length) := Lib.hid (List.length_set)
    clear hA f0 f1 f2 x0 x1 x2 HP1 HP2 HB3 r0 r1 r2 r3 r4 r5 r6 r7 r8 d0 d1 d2 t0 t1 t2
    obtain ⟨⟨r0, r1, r2, r3, r4, r5, r6, r7, r8⟩, ⟨d0, d1, d2⟩, t0, t1, t2⟩ := HXX.out _ HBA.out
    by_cases h2 : 0 < E.length
    · have z2 : decide (1 < (m2 : Int)) = true := decide_eq_true (by have := HM2.out; omega)
      have z2' : decide ((m2 : Int) > 1) = true := z2
      have z2'' : decide (1 < m2) = true := decide_eq_true (by have := HM2.out; omega)
      obtain ⟨k2, hk2, hk3⟩ : ∃ k2, k2 < E.length ∧ E.length ≤ k2 + 1 := ⟨E.length - 1, by omega, by omega⟩
      have i1 : IntKind.i64.wrap ((m2 : Int) - 2) = (k2 : Int) := by rw [show (m2 : Int) - 2 = (k2 : Int) by have := HM2.out; omega]; exact IntWalk.i64_in _ (by omega)
      have i2 : (0 : Int) ≤ (k2 : Int) := Int.natCast_nonneg _
      have i3 : (k2 : Int) < (m2 : Int) := by have := HM2.out; omega
      obtain ⟨⟨f0, f1, f2⟩, x0, x1, x2⟩ := own_free HE2.out (by have := HM2.out; simp; omega) k2 (by simp; omega)
      go_upto_region 10 with fail
      obtain ⟨Z, hZ⟩ : ∃ Z, Z = (((A).setCell ⟨g2, k2 * 3, none⟩ (.int .i64 t.1)).setCell ⟨g2, k2 * 3 + 1, none⟩ (.int .i64 t.2.1)).setCell ⟨g2, k2 * 3 + 2, none⟩ (.int .i64 t.2.2) := ⟨_, rfl⟩
      rw [← hZ]
      have HQ1 : Hid (Z.ownsRow _ 27 3 (.slice (some ⟨g1, 0, none⟩) m1 p1) m1 (tcells (_ ++ [mk]))) := Lib.hid (by
        rw [hZ]
        have hne : g1 ≠ g2 := by have := HL1.out; omega
        exact own_other (own_other (own_other HS2.out (by exact hne) _) (by exact hne) _) (by exact hne) _)
      have HQ2 : Hid (Z.ownsRow _ 27 3 (.slice (some ⟨g2, 0, none⟩) m2 p2) m2 (tcells (E.set k2 t ++ [mk]))) := Lib.hid (by
        rw [hZ, ← List.set_append_left _ _ (by omega)]
        exact own_set HE2.out (by have := HM2.out; simp; omega) k2 (by simp; omega) t)
      have HLE : Hid ((E.set k2 t).length = E.length) := Lib.hid (List.length_set)
      have HBZ : Hid (Below W.heap.size W Z) := Lib.hid (by
        rw [hZ]
        have := HL1.out
        exact ((HBA.out.setCell (by show W.heap.size ≤ g2; omega) _).setCell (by show W.heap.size ≤ g2; omega) _).setCell (by show W.heap.size ≤ g2; omega) _)
      clear hZ f0 f1 f2 x0 x1 x2 HS2 HE2 HBA r0 r1 r2 r3 r4 r5 r6 r7 r8 d0 d1 d2 t0 t1 t2
      obtain ⟨⟨r0, r1, r2, r3, r4, r5, r6, r7, r8⟩, ⟨d0, d1, d2⟩, t0, t1, t2⟩ := HXX.out _ HBZ.out
      go_upto_region 13 with (first
        | (go_at_call 6; (with_reducible refine (HAs.out _ _ _ _ _ _ _ _ _ HLS.out HLE.out HBZ.out HQ1.out HQ2.out).mono ?_); rintro ev w5 ⟨rfl, hb⟩; have HB5 := Lib.hid (below_step HBZ.out hb); clear hb))
      clear r0 r1 r2 r3 r4 r5 r6 r7 r8 d0 d1 d2 t0 t1 t2
      have HL : Hid (∀ w', Below W.heap.size W w' → w'.cell? ⟨w.heap.size, 0, none⟩ = some (.bool (dy 0)) ∧ w'.cell? ⟨w.heap.size, 1, none⟩ = some (.bool (dy 1)) ∧ w'.cell? ⟨w.heap.size, 2, none⟩ = some (.bool (dy 2)) ∧ w'.cell? ⟨w.heap.size, 3, none⟩ = some (.bool (dy 3)) ∧ w'.cell? ⟨w.heap.size, 4, none⟩ = some (.bool (dy 4)) ∧ w'.cell? ⟨w.heap.size, 5, none⟩ = some (.bool (dy 5)) ∧ w'.cell? ⟨w.heap.size, 6, none⟩ = some (.bool (dy 6)) ∧ w'.cell? ⟨w.heap.size, 7, none⟩ = some (.slice X1 S.length c1) ∧ w'.cell? ⟨w.heap.size, 8, none⟩ = some (.slice X2 E.length c2) ∧ w'.cell? ⟨w.heap.size + 1, 0, none⟩ = some (.int .i64 d.1) ∧ w'.cell? ⟨w.heap.size + 1, 1, none⟩ = some (.int .i64 d.2.1) ∧ w'.cell? ⟨w.heap.size + 1, 2, none⟩ = some (.int .i64 d.2.2) ∧ w'.cell? ⟨w.heap.size + 1 + 1, 0, none⟩ = some (.int .i64 t.1) ∧ w'.cell? ⟨w.heap.size + 1 + 1, 1, none⟩ = some (.int .i64 t.2.1) ∧ w'.cell? ⟨w.heap.size + 1 + 1, 2, none⟩ = some (.int .i64 t.2.2)) := Lib.hid fun w' k => by
        obtain ⟨⟨q0, q1, q2, q3, q4, q5, q6, q7, q8⟩, ⟨q9, q10, q11⟩, q12, q13, q14⟩ := HXX.out _ k
        exact ⟨q0, q1, q2, q3, q4, q5, q6, q7, q8, q9, q10, q11, q12, q13, q14⟩
      have hb0 := HB5.out.drew
      go_region_held3 (fun w' => w'.cell? ⟨w.heap.size, 0, none⟩ = some (.bool (dy 0)) ∧ w'.cell? ⟨w.heap.size, 1, none⟩ = some (.bool (dy 1)) ∧ w'.cell? ⟨w.heap.size, 2, none⟩ = some (.bool (dy 2)) ∧ w'.cell? ⟨w.heap.size, 3, none⟩ = some (.bool (dy 3)) ∧ w'.cell? ⟨w.heap.size, 4, none⟩ = some (.bool (dy 4)) ∧ w'.cell? ⟨w.heap.size, 5, none⟩ = some (.bool (dy 5)) ∧ w'.cell? ⟨w.heap.size, 6, none⟩ = some (.bool (dy 6)) ∧ w'.cell? ⟨w.heap.size, 7, none⟩ = some (.slice X1 S.length c1) ∧ w'.cell? ⟨w.heap.size, 8, none⟩ = some (.slice X2 E.length c2) ∧ w'.cell? ⟨w.heap.size + 1, 0, none⟩ = some (.int .i64 d.1) ∧ w'.cell? ⟨w.heap.size + 1, 1, none⟩ = some (.int .i64 d.2.1) ∧ w'.cell? ⟨w.heap.size + 1, 2, none⟩ = some (.int .i64 d.2.2) ∧ w'.cell? ⟨w.heap.size + 1 + 1, 0, none⟩ = some (.int .i64 t.1) ∧ w'.cell? ⟨w.heap.size + 1 + 1, 1, none⟩ = some (.int .i64 t.2.1) ∧ w'.cell? ⟨w.heap.size + 1 + 1, 2, none⟩ = some (.int .i64 t.2.2)) (exact HL.out _ (by assumption)) (first
        | (go_at_call 5; (with_reducible refine (HRo1.out _ hb0).mono ?_); rintro ev w6 ⟨g3, p3, rfl, hown, hb⟩; have HO3 := Lib.hid hown; have hb1 := below_step hb0 hb; clear hb hown)
        | (go_at_call 5; (with_reducible refine (HRo2.out _ hb1).mono ?_); rintro ev w7 ⟨g4, p4, rfl, hown, hb⟩; have HO4 := Lib.hid hown; have HO3' := Lib.hid (own_below HO3.out hb); have hb2 := below_step hb1 hb; clear hb hown)
        | (go_at_call 6; (with_reducible refine (HAs.out S E _ _ _ _ _ _ _ rfl rfl hb2 HO3'.out HO4.out).mono ?_); rintro ev w8 ⟨rfl, hb⟩; have hb3 := below_step hb2 hb; clear hb))
      go_wp2_with fail
      go_ret
      exact ⟨rfl, K1.out.trans (hb3.mono K1.out.size)⟩
    · have z2 : decide (1 < (m2 : Int)) = false := decide_eq_false (by have := HM2.out; omega)
      have z2' : decide ((m2 : Int) > 1) = false := z2
      have z2'' : decide (1 < m2) = false := decide_eq_false (by have := HM2.out; omega)
      have HQ1 := HS2
      have HQ2 := HE2
      have HLE : Hid (E.length = E.length) := Lib.hid rfl
      have HBZ := HBA
      go_upto_region 13 with (first
        | (go_at_call 6; (with_reducible refine (HAs.out _ _ _ _ _ _ _ _ _ HLS.out HLE.out HBZ.out HQ1.out HQ2.out).mono ?_); rintro ev w5 ⟨rfl, hb⟩; have HB5 := Lib.hid (below_step HBZ.out hb); clear hb))
      clear r0 r1 r2 r3 r4 r5 r6 r7 r8 d0 d1 d2 t0 t1 t2
      have HL : Hid (∀ w', Below W.heap.size W w' → w'.cell? ⟨w.heap.size, 0, none⟩ = some (.bool (dy 0)) ∧ w'.cell? ⟨w.heap.size, 1, none⟩ = some (.bool (dy 1)) ∧ w'.cell? ⟨w.heap.size, 2, none⟩ = some (.bool (dy 2)) ∧ w'.cell? ⟨w.heap.size, 3, none⟩ = some (.bool (dy 3)) ∧ w'.cell? ⟨w.heap.size, 4, none⟩ = some (.bool (dy 4)) ∧ w'.cell? ⟨w.heap.size, 5, none⟩ = some (.bool (dy 5)) ∧ w'.cell? ⟨w.heap.size, 6, none⟩ = some (.bool (dy 6)) ∧ w'.cell? ⟨w.heap.size, 7, none⟩ = some (.slice X1 S.length c1) ∧ w'.cell? ⟨w.heap.size, 8, none⟩ = some (.slice X2 E.length c2) ∧ w'.cell? ⟨w.heap.size + 1, 0, none⟩ = some (.int .i64 d.1) ∧ w'.cell? ⟨w.heap.size + 1, 1, none⟩ = some (.int .i64 d.2.1) ∧ w'.cell? ⟨w.heap.size + 1, 2, none⟩ = some (.int .i64 d.2.2) ∧ w'.cell? ⟨w.heap.size + 1 + 1, 0, none⟩ = some (.int .i64 t.1) ∧ w'.cell? ⟨w.heap.size + 1 + 1, 1, none⟩ = some (.int .i64 t.2.1) ∧ w'.cell? ⟨w.heap.size + 1 + 1, 2, none⟩ = some (.int .i64 t.2.2)) := Lib.hid fun w' k => by
        obtain ⟨⟨q0, q1, q2, q3, q4, q5, q6, q7, q8⟩, ⟨q9, q10, q11⟩, q12, q13, q14⟩ := HXX.out _ k
        exact ⟨q0, q1, q2, q3, q4, q5, q6, q7, q8, q9, q10, q11, q12, q13, q14⟩
      have hb0 := HB5.out.drew
      go_region_held3 (fun w' => w'.cell? ⟨w.heap.size, 0, none⟩ = some (.bool (dy 0)) ∧ w'.cell? ⟨w.heap.size, 1, none⟩ = some (.bool (dy 1)) ∧ w'.cell? ⟨w.heap.size, 2, none⟩ = some (.bool (dy 2)) ∧ w'.cell? ⟨w.heap.size, 3, none⟩ = some (.bool (dy 3)) ∧ w'.cell? ⟨w.heap.size, 4, none⟩ = some (.bool (dy 4)) ∧ w'.cell? ⟨w.heap.size, 5, none⟩ = some (.bool (dy 5)) ∧ w'.cell? ⟨w.heap.size, 6, none⟩ = some (.bool (dy 6)) ∧ w'.cell? ⟨w.heap.size, 7, none⟩ = some (.slice X1 S.length c1) ∧ w'.cell? ⟨w.heap.size, 8, none⟩ = some (.slice X2 E.length c2) ∧ w'.cell? ⟨w.heap.size + 1, 0, none⟩ = some (.int .i64 d.1) ∧ w'.cell? ⟨w.heap.size + 1, 1, none⟩ = some (.int .i64 d.2.1) ∧ w'.cell? ⟨w.heap.size + 1, 2, none⟩ = some (.int .i64 d.2.2) ∧ w'.cell? ⟨w.heap.size + 1 + 1, 0, none⟩ = some (.int .i64 t.1) ∧ w'.cell? ⟨w.heap.size + 1 + 1, 1, none⟩ = some (.int .i64 t.2.1) ∧ w'.cell? ⟨w.heap.size + 1 + 1, 2, none⟩ = some (.int .i64 t.2.2)) (exact HL.out _ (by assumption)) (first
        | (go_at_call 5; (with_reducible refine (HRo1.out _ hb0).mono ?_); rintro ev w6 ⟨g3, p3, rfl, hown, hb⟩; have HO3 := Lib.hid hown; have hb1 := below_step hb0 hb; clear hb hown)
        | (go_at_call 5; (with_reducible refine (HRo2.out _ hb1).mono ?_); rintro ev w7 ⟨g4, p4, rfl, hown, hb⟩; have HO4 := Lib.hid hown; have HO3' := Lib.hid (own_below HO3.out hb); have hb2 := below_step hb1 hb; clear hb hown)
        | (go_at_call 6; (with_reducible refine (HAs.out S E _ _ _ _ _ _ _ rfl rfl hb2 HO3'.out HO4.out).mono ?_); rintro ev w8 ⟨rfl, hb⟩; have hb3 := below_step hb2 hb; clear hb))
      go_wp2_with fail
      go_ret
      exact ⟨rfl, K1.out.trans (hb3.mono K1.out.size)⟩
  · have z1 : decide (1 < (m1 : Int)) = false := decide_eq_false (by have := HM1.out; omega)
    have z1' : decide ((m1 : Int) > 1) = false := z1
    have z1'' : decide (1 < m1) = false := decide_eq_false (by have := HM1.out; omega)
    have HS2 := HP1
    have HE2 := HP2
    have HBA := HB3
    have HLS : Hid (S.length = S.length) := Lib.hid rfl
    by_cases h2 : 0 < E.length
    · have z2 : decide (1 < (m2 : Int)) = true := decide_eq_true (by have := HM2.out; omega)
      have z2' : decide ((m2 : Int) > 1) = true := z2
      have z2'' : decide (1 < m2) = true := decide_eq_true (by have := HM2.out; omega)
      obtain ⟨k2, hk2, hk3⟩ : ∃ k2, k2 < E.length ∧ E.length ≤ k2 + 1 := ⟨E.length - 1, by omega, by omega⟩
      have i1 : IntKind.i64.wrap ((m2 : Int) - 2) = (k2 : Int) := by rw [show (m2 : Int) - 2 = (k2 : Int) by have := HM2.out; omega]; exact IntWalk.i64_in _ (by omega)
      have i2 : (0 : Int) ≤ (k2 : Int) := Int.natCast_nonneg _
      have i3 : (k2 : Int) < (m2 : Int) := by have := HM2.out; omega
      obtain ⟨⟨f0, f1, f2⟩, x0, x1, x2⟩ := own_free HE2.out (by have := HM2.out; simp; omega) k2 (by simp; omega)
      go_upto_region 10 with fail
      obtain ⟨Z, hZ⟩ : ∃ Z, Z = (((w4).setCell ⟨g2, k2 * 3, none⟩ (.int .i64 t.1)).setCell ⟨g2, k2 * 3 + 1, none⟩ (.int .i64 t.2.1)).setCell ⟨g2, k2 * 3 + 2, none⟩ (.int .i64 t.2.2) := ⟨_, rfl⟩
      rw [← hZ]
      have HQ1 : Hid (Z.ownsRow _ 27 3 (.slice (some ⟨g1, 0, none⟩) m1 p1) m1 (tcells (_ ++ [mk]))) := Lib.hid (by
        rw [hZ]
        have hne : g1 ≠ g2 := by have := HL1.out; omega
        exact own_other (own_other (own_other HS2.out (by exact hne) _) (by exact hne) _) (by exact hne) _)
      have HQ2 : Hid (Z.ownsRow _ 27 3 (.slice (some ⟨g2, 0, none⟩) m2 p2) m2 (tcells (E.set k2 t ++ [mk]))) := Lib.hid (by
        rw [hZ, ← List.set_append_left _ _ (by omega)]
        exact own_set HE2.out (by have := HM2.out; simp; omega) k2 (by simp; omega) t)
      have HLE : Hid ((E.set k2 t).length = E.length) := Lib.hid (List.length_set)
      have HBZ : Hid (Below W.heap.size W Z) := Lib.hid (by
        rw [hZ]
        have := HL1.out
        exact ((HBA.out.setCell (by show W.heap.size ≤ g2; omega) _).setCell (by show W.heap.size ≤ g2; omega) _).setCell (by show W.heap.size ≤ g2; omega) _)
      clear hZ f0 f1 f2 x0 x1 x2 HS2 HE2 HBA r0 r1 r2 r3 r4 r5 r6 r7 r8 d0 d1 d2 t0 t1 t2
      obtain ⟨⟨r0, r1, r2, r3, r4, r5, r6, r7, r8⟩, ⟨d0, d1, d2⟩, t0, t1, t2⟩ := HXX.out _ HBZ.out
      go_upto_region 13 with (first
        | (go_at_call 6; (with_reducible refine (HAs.out _ _ _ _ _ _ _ _ _ HLS.out HLE.out HBZ.out HQ1.out HQ2.out).mono ?_); rintro ev w5 ⟨rfl, hb⟩; have HB5 := Lib.hid (below_step HBZ.out hb); clear hb))
      clear r0 r1 r2 r3 r4 r5 r6 r7 r8 d0 d1 d2 t0 t1 t2
      have HL : Hid (∀ w', Below W.heap.size W w' → w'.cell? ⟨w.heap.size, 0, none⟩ = some (.bool (dy 0)) ∧ w'.cell? ⟨w.heap.size, 1, none⟩ = some (.bool (dy 1)) ∧ w'.cell? ⟨w.heap.size, 2, none⟩ = some (.bool (dy 2)) ∧ w'.cell? ⟨w.heap.size, 3, none⟩ = some (.bool (dy 3)) ∧ w'.cell? ⟨w.heap.size, 4, none⟩ = some (.bool (dy 4)) ∧ w'.cell? ⟨w.heap.size, 5, none⟩ = some (.bool (dy 5)) ∧ w'.cell? ⟨w.heap.size, 6, none⟩ = some (.bool (dy 6)) ∧ w'.cell? ⟨w.heap.size, 7, none⟩ = some (.slice X1 S.length c1) ∧ w'.cell? ⟨w.heap.size, 8, none⟩ = some (.slice X2 E.length c2) ∧ w'.cell? ⟨w.heap.size + 1, 0, none⟩ = some (.int .i64 d.1) ∧ w'.cell? ⟨w.heap.size + 1, 1, none⟩ = some (.int .i64 d.2.1) ∧ w'.cell? ⟨w.heap.size + 1, 2, none⟩ = some (.int .i64 d.2.2) ∧ w'.cell? ⟨w.heap.size + 1 + 1, 0, none⟩ = some (.int .i64 t.1) ∧ w'.cell? ⟨w.heap.size + 1 + 1, 1, none⟩ = some (.int .i64 t.2.1) ∧ w'.cell? ⟨w.heap.size + 1 + 1, 2, none⟩ = some (.int .i64 t.2.2)) := Lib.hid fun w' k => by
        obtain ⟨⟨q0, q1, q2, q3, q4, q5, q6, q7, q8⟩, ⟨q9, q10, q11⟩, q12, q13, q14⟩ := HXX.out _ k
        exact ⟨q0, q1, q2, q3, q4, q5, q6, q7, q8, q9, q10, q11, q12, q13, q14⟩
      have hb0 := HB5.out.drew
      go_region_held3 (fun w' => w'.cell? ⟨w.heap.size, 0, none⟩ = some (.bool (dy 0)) ∧ w'.cell? ⟨w.heap.size, 1, none⟩ = some (.bool (dy 1)) ∧ w'.cell? ⟨w.heap.size, 2, none⟩ = some (.bool (dy 2)) ∧ w'.cell? ⟨w.heap.size, 3, none⟩ = some (.bool (dy 3)) ∧ w'.cell? ⟨w.heap.size, 4, none⟩ = some (.bool (dy 4)) ∧ w'.cell? ⟨w.heap.size, 5, none⟩ = some (.bool (dy 5)) ∧ w'.cell? ⟨w.heap.size, 6, none⟩ = some (.bool (dy 6)) ∧ w'.cell? ⟨w.heap.size, 7, none⟩ = some (.slice X1 S.length c1) ∧ w'.cell? ⟨w.heap.size, 8, none⟩ = some (.slice X2 E.length c2) ∧ w'.cell? ⟨w.heap.size + 1, 0, none⟩ = some (.int .i64 d.1) ∧ w'.cell? ⟨w.heap.size + 1, 1, none⟩ = some (.int .i64 d.2.1) ∧ w'.cell? ⟨w.heap.size + 1, 2, none⟩ = some (.int .i64 d.2.2) ∧ w'.cell? ⟨w.heap.size + 1 + 1, 0, none⟩ = some (.int .i64 t.1) ∧ w'.cell? ⟨w.heap.size + 1 + 1, 1, none⟩ = some (.int .i64 t.2.1) ∧ w'.cell? ⟨w.heap.size + 1 + 1, 2, none⟩ = some (.int .i64 t.2.2)) (exact HL.out _ (by assumption)) (first
        | (go_at_call 5; (with_reducible refine (HRo1.out _ hb0).mono ?_); rintro ev w6 ⟨g3, p3, rfl, hown, hb⟩; have HO3 := Lib.hid hown; have hb1 := below_step hb0 hb; clear hb hown)
        | (go_at_call 5; (with_reducible refine (HRo2.out _ hb1).mono ?_); rintro ev w7 ⟨g4, p4, rfl, hown, hb⟩; have HO4 := Lib.hid hown; have HO3' := Lib.hid (own_below HO3.out hb); have hb2 := below_step hb1 hb; clear hb hown)
        | (go_at_call 6; (with_reducible refine (HAs.out S E _ _ _ _ _ _ _ rfl rfl hb2 HO3'.out HO4.out).mono ?_); rintro ev w8 ⟨rfl, hb⟩; have hb3 := below_step hb2 hb; clear hb))
      go_wp2_with fail
      go_ret
      exact ⟨rfl, K1.out.trans (hb3.mono K1.out.size)⟩
    · have z2 : decide (1 < (m2 : Int)) = false := decide_eq_false (by have := HM2.out; omega)
      have z2' : decide ((m2 : Int) > 1) = false := z2
      have z2'' : decide (1 < m2) = false := decide_eq_false (by have := HM2.out; omega)
      have HQ1 := HS2
      have HQ2 := HE2
      have HLE : Hid (E.length = E.length) := Lib.hid rfl
      have HBZ := HBA
      go_upto_region 13 with (first
        | (go_at_call 6; (with_reducible refine (HAs.out _ _ _ _ _ _ _ _ _ HLS.out HLE.out HBZ.out HQ1.out HQ2.out).mono ?_); rintro ev w5 ⟨rfl, hb⟩; have HB5 := Lib.hid (below_step HBZ.out hb); clear hb))
      clear r0 r1 r2 r3 r4 r5 r6 r7 r8 d0 d1 d2 t0 t1 t2
      have HL : Hid (∀ w', Below W.heap.size W w' → w'.cell? ⟨w.heap.size, 0, none⟩ = some (.bool (dy 0)) ∧ w'.cell? ⟨w.heap.size, 1, none⟩ = some (.bool (dy 1)) ∧ w'.cell? ⟨w.heap.size, 2, none⟩ = some (.bool (dy 2)) ∧ w'.cell? ⟨w.heap.size, 3, none⟩ = some (.bool (dy 3)) ∧ w'.cell? ⟨w.heap.size, 4, none⟩ = some (.bool (dy 4)) ∧ w'.cell? ⟨w.heap.size, 5, none⟩ = some (.bool (dy 5)) ∧ w'.cell? ⟨w.heap.size, 6, none⟩ = some (.bool (dy 6)) ∧ w'.cell? ⟨w.heap.size, 7, none⟩ = some (.slice X1 S.length c1) ∧ w'.cell? ⟨w.heap.size, 8, none⟩ = some (.slice X2 E.length c2) ∧ w'.cell? ⟨w.heap.size + 1, 0, none⟩ = some (.int .i64 d.1) ∧ w'.cell? ⟨w.heap.size + 1, 1, none⟩ = some (.int .i64 d.2.1) ∧ w'.cell? ⟨w.heap.size + 1, 2, none⟩ = some (.int .i64 d.2.2) ∧ w'.cell? ⟨w.heap.size + 1 + 1, 0, none⟩ = some (.int .i64 t.1) ∧ w'.cell? ⟨w.heap.size + 1 + 1, 1, none⟩ = some (.int .i64 t.2.1) ∧ w'.cell? ⟨w.heap.size + 1 + 1, 2, none⟩ = some (.int .i64 t.2.2)) := Lib.hid fun w' k => by
        obtain ⟨⟨q0, q1, q2, q3, q4, q5, q6, q7, q8⟩, ⟨q9, q10, q11⟩, q12, q13, q14⟩ := HXX.out _ k
        exact ⟨q0, q1, q2, q3, q4, q5, q6, q7, q8, q9, q10, q11, q12, q13, q14⟩
      have hb0 := HB5.out.drew
      go_region_held3 (fun w' => w'.cell? ⟨w.heap.size, 0, none⟩ = some (.bool (dy 0)) ∧ w'.cell? ⟨w.heap.size, 1, none⟩ = some (.bool (dy 1)) ∧ w'.cell? ⟨w.heap.size, 2, none⟩ = some (.bool (dy 2)) ∧ w'.cell? ⟨w.heap.size, 3, none⟩ = some (.bool (dy 3)) ∧ w'.cell? ⟨w.heap.size, 4, none⟩ = some (.bool (dy 4)) ∧ w'.cell? ⟨w.heap.size, 5, none⟩ = some (.bool (dy 5)) ∧ w'.cell? ⟨w.heap.size, 6, none⟩ = some (.bool (dy 6)) ∧ w'.cell? ⟨w.heap.size, 7, none⟩ = some (.slice X1 S.length c1) ∧ w'.cell? ⟨w.heap.size, 8, none⟩ = some (.slice X2 E.length c2) ∧ w'.cell? ⟨w.heap.size + 1, 0, none⟩ = some (.int .i64 d.1) ∧ w'.cell? ⟨w.heap.size + 1, 1, none⟩ = some (.int .i64 d.2.1) ∧ w'.cell? ⟨w.heap.size + 1, 2, none⟩ = some (.int .i64 d.2.2) ∧ w'.cell? ⟨w.heap.size + 1 + 1, 0, none⟩ = some (.int .i64 t.1) ∧ w'.cell? ⟨w.heap.size + 1 + 1, 1, none⟩ = some (.int .i64 t.2.1) ∧ w'.cell? ⟨w.heap.size + 1 + 1, 2, none⟩ = some (.int .i64 t.2.2)) (exact HL.out _ (by assumption)) (first
        | (go_at_call 5; (with_reducible refine (HRo1.out _ hb0).mono ?_); rintro ev w6 ⟨g3, p3, rfl, hown, hb⟩; have HO3 := Lib.hid hown; have hb1 := below_step hb0 hb; clear hb hown)
        | (go_at_call 5; (with_reducible refine (HRo2.out _ hb1).mono ?_); rintro ev w7 ⟨g4, p4, rfl, hown, hb⟩; have HO4 := Lib.hid hown; have HO3' := Lib.hid (own_below HO3.out hb); have hb2 := below_step hb1 hb; clear hb hown)
        | (go_at_call 6; (with_reducible refine (HAs.out S E _ _ _ _ _ _ _ rfl rfl hb2 HO3'.out HO4.out).mono ?_); rintro ev w8 ⟨rfl, hb⟩; have hb3 := below_step hb2 hb; clear hb))
      go_wp2_with fail
      go_ret
      exact ⟨rfl, K1.out.trans (hb3.mono K1.out.size)⟩
end Go.Proofs.YtjifinacnofmiaaDoor.Ext
set_option linter.unusedVariables false
set_option linter.unusedSimpArgs false
namespace Go.Proofs.YtjifinacnofmiaaDoor.Ext
open Go Go.RowKit Go.ChangeShapes Go.WideShapes Go.Deep
theorem cellsDate : Tryd.prog.cellsOf 27 = 3 := by kernel_rfl
theorem bytesDate : Tryd.prog.bytesOf 27 = 24 := by kernel_rfl
theorem open_dates {H : Type} {enc : TypeId × Value → H} {w : World} {v : Value} {d : DataW H} {p : List MemPlace} {fuel : Nat} (h : DataW.trod enc Tryd.prog w 0 (fun _ => true) true fuel 23 [v] = some (d, p))
    (hw : ∀ n ∈ DataW.weights Tryd.prog 23 d, n ≤ reachBytes) : ∃ (X : Option Addr) (c : Nat) (l : List D3), v = .slice X l.length c ∧ DL w (.slice X l.length c) l ∧ (X = none → c = 0) ∧ l.length * 24 ≤ 140737488351232 := by
  rcases open_slice Tryd.underlying23 h with ⟨hcs, _⟩ | ⟨a, len, cap, m, n, D, Pl, hcs, hb, hl, hm, hmm, hxx, hx⟩
  · obtain rfl : v = .slice none 0 0 := (List.cons.inj hcs).1
    exact ⟨none, 0, [], rfl, ⟨none, 0, rfl, by decide, fun i h => absurd h (by simp)⟩, fun _ => rfl, by decide⟩
  · obtain rfl : v = .slice (some a) len cap := (List.cons.inj hcs).1
    simp only [if_true] at hmm
    subst hmm
    have hd : d = _ := congrArg Prod.fst hxx
    have hwt : len * 24 ≤ reachBytes := by
      have := hw _ (by
        rw [hd]
        unfold DataW.weights
        rw [Tryd.underlying23]
        exact List.mem_cons_self)
      rw [bytesDate] at this
      simp only [List.length_map, List.length_range] at this
      omega
    have each : ∀ i, i < len → ∃ q : D3, w.cell? (a.add (i * 3)) = some (.int .i64 q.1) ∧ w.cell? (a.add (i * 3 + 1)) = some (.int .i64 q.2.1) ∧ w.cell? (a.add (i * 3 + 2)) = some (.int .i64 q.2.2) := by
      intro i hi
      obtain ⟨cs', h1, h2⟩ := hx i (by omega)
      rw [cellsDate] at h1
      obtain ⟨_, hlen, hcell⟩ := World.cells?_some h1
      obtain ⟨xs, k, hk, hxy, _, hxl, hf⟩ := DataW.trod_struct Tryd.underlying27 h2
      match xs, hxl, cs', hlen with
      | [y0, y1, y2], _, [v0, v1, v2], _ =>
        have g0 := hf 0 _ rfl
        have g1 := hf 1 _ rfl
        have g2 := hf 2 _ rfl
        have ci : Tryd.prog.cellsOf 3 = 1 := by kernel_rfl
        simp [ci] at g0 g1 g2
        obtain ⟨z0, k0, _, _⟩ := DataW.trod_int Tryd.underlying3 g0
        obtain ⟨z1, k1, _, _⟩ := DataW.trod_int Tryd.underlying3 g1
        obtain ⟨z2, k2, _, _⟩ := DataW.trod_int Tryd.underlying3 g2
        obtain rfl := (List.cons.inj k0).1
        obtain rfl := (List.cons.inj k1).1
        obtain rfl := (List.cons.inj k2).1
        have e0 := hcell 0 (by omega)
        have e1 := hcell 1 (by omega)
        have e2 := hcell 2 (by omega)
        rw [add_add] at e0 e1 e2
        exact ⟨(z0, z1, z2), by simpa using e0, by simpa using e1, by simpa using e2⟩
    obtain ⟨q, hq⟩ := choose_lt each
    have hln : ((List.range len).map q).length = len := by simp
    have hr := reachBytes_lt
    refine ⟨some a, m, (List.range len).map q, by rw [hln], ⟨some a, m, rfl, by rw [hln]; omega, fun i hi => ?_⟩, (fun h => by cases h), by rw [hln]; exact hwt⟩
    have hi' : i < len := by simpa using hi
    have hs : a.spot = none := by simpa [Addr.add] using World.cell?_spot (hq 0 (by omega)).1
    obtain ⟨ab, ao, spot⟩ := a
    obtain rfl : spot = none := hs
    obtain ⟨c1, c2, c3⟩ := hq i hi'
    have e : ((List.range len).map q)[i] = q i := by simp
    have hadd : ∀ j, (⟨ab, ao, none⟩ : Addr).add j = ⟨ab, ao + j, none⟩ := fun j => by
      unfold Addr.add
      split
      · rename_i h0
        rw [h0]
        rfl
      · rfl
    rw [hadd] at c1 c2 c3
    rw [e]
    exact ⟨ab, ao, rfl, c1, c2, c3⟩
section
variable {H : Type} {enc : TypeId × Value → H} {P : Program} {w : World} {base : Nat} {spare : Nat → Bool} {held : Bool}
theorem trod_array7 {t e : TypeId} {fuel : Nat} {c0 c1 c2 c3 c4 c5 c6 : Value} {x : DataW H × List MemPlace} (ht : P.underlying t = some (.array 7 e)) (hce : P.cellsOf e = 1)
    (h : DataW.trod enc P w base spare held fuel t [c0, c1, c2, c3, c4, c5, c6] = some x) :
    ∃ n, (∃ y, DataW.trod enc P w base spare held n e [c0] = some y) ∧ (∃ y, DataW.trod enc P w base spare held n e [c1] = some y) ∧ (∃ y, DataW.trod enc P w base spare held n e [c2] = some y) ∧ (∃ y, DataW.trod enc P w base spare held n e [c3] = some y) ∧ (∃ y, DataW.trod enc P w base spare held n e [c4] = some y) ∧ (∃ y, DataW.trod enc P w base spare held n e [c5] = some y) ∧ (∃ y, DataW.trod enc P w base spare held n e [c6] = some y) := by
  cases fuel with
  | zero => simp [DataW.trod] at h
  | succ n =>
    unfold DataW.trod at h
    rw [ht] at h
    have r7 : List.range 7 = [0, 1, 2, 3, 4, 5, 6] := rfl
    simp [r7, hce] at h
    obtain ⟨_, h⟩ := h
    cases h0 : DataW.trod enc P w base spare held n e [c0] with
    | none => simp [h0] at h
    | some y0 =>
      cases h1 : DataW.trod enc P w base spare held n e [c1] with
      | none => simp [h0, h1] at h
      | some y1 =>
        cases h2 : DataW.trod enc P w base spare held n e [c2] with
        | none => simp [h0, h1, h2] at h
        | some y2 =>
          cases h3 : DataW.trod enc P w base spare held n e [c3] with
          | none => simp [h0, h1, h2, h3] at h
          | some y3 =>
            cases h4 : DataW.trod enc P w base spare held n e [c4] with
            | none => simp [h0, h1, h2, h3, h4] at h
            | some y4 =>
              cases h5 : DataW.trod enc P w base spare held n e [c5] with
              | none => simp [h0, h1, h2, h3, h4, h5] at h
              | some y5 =>
                cases h6 : DataW.trod enc P w base spare held n e [c6] with
                | none => simp [h0, h1, h2, h3, h4, h5, h6] at h
                | some y6 =>
                  exact ⟨n, ⟨_, h0⟩, ⟨_, h1⟩, ⟨_, h2⟩, ⟨_, h3⟩, ⟨_, h4⟩, ⟨_, h5⟩, ⟨_, h6⟩⟩
end
theorem bool_of {H : Type} {enc : TypeId × Value → H} {w : World} {v : Value} {n : Nat} (h : ∃ y, DataW.trod enc Tryd.prog w 0 (fun _ => true) true n 4 [v] = some y) : ∃ b, v = .bool b := by
  obtain ⟨⟨d, p⟩, h⟩ := h
  obtain ⟨b, e, _⟩ := DataW.trod_bool Tryd.underlying4 h
  exact ⟨b, (List.cons.inj e).1⟩
theorem open_rule {H : Type} {enc : TypeId × Value → H} {w : World} {r : Reach} {b0 : Nat} {v : Value} {d : DataW H} {p : List MemPlace} (hv : Value.okWide Tryd.prog w r b0 25 v) (h : DataW.Trod enc Tryd.prog w 0 (fun _ => true) true 25 v d p)
    (hw : ∀ n ∈ DataW.weights Tryd.prog 25 d, n ≤ reachBytes) :
    ∃ (dy : Nat → Bool) (X1 X2 : Option Addr) (c1 c2 : Nat) (S E : List D3), v = rvV dy (.slice X1 S.length c1) (.slice X2 E.length c2) ∧ DL w (.slice X1 S.length c1) S ∧ DL w (.slice X2 E.length c2) E ∧ (X1 = none → c1 = 0) ∧ (X2 = none → c2 = 0) ∧ S.length * 24 ≤ 140737488351232 ∧ E.length * 24 ≤ 140737488351232 := by
  obtain ⟨cs, rfl, hsz⟩ := okWide_struct Tryd.underlying25 hv
  obtain ⟨l⟩ := cs
  have hC : Tryd.prog.cellsOf 25 = 9 := by kernel_rfl
  obtain ⟨fuel, hf⟩ := h
  match l, hsz.trans hC with
  | [k0, k1, k2, k3, k4, k5, k6, k7, k8], _ =>
    obtain ⟨xs, n, _, hx, _, hlen, hg⟩ := DataW.trod_struct Tryd.underlying25 hf
    have ca : Tryd.prog.cellsOf 22 = 7 := by kernel_rfl
    have cd : Tryd.prog.cellsOf 23 = 1 := by kernel_rfl
    have cb : Tryd.prog.cellsOf 4 = 1 := by kernel_rfl
    match xs, hlen with
    | [y0, y1, y2], _ =>
      simp only [Prod.mk.injEq] at hx
      have g0 := hg 0 _ rfl
      have g1 := hg 1 _ rfl
      have g2 := hg 2 _ rfl
      simp [Value.cells, ca, cd] at g0 g1 g2
      obtain ⟨m, b0, b1, b2, b3, b4, b5, b6⟩ := trod_array7 Tryd.underlying22 cb g0
      obtain ⟨t0, rfl⟩ := bool_of b0
      obtain ⟨t1, rfl⟩ := bool_of b1
      obtain ⟨t2, rfl⟩ := bool_of b2
      obtain ⟨t3, rfl⟩ := bool_of b3
      obtain ⟨t4, rfl⟩ := bool_of b4
      obtain ⟨t5, rfl⟩ := bool_of b5
      obtain ⟨t6, rfl⟩ := bool_of b6
      obtain ⟨rfl, _⟩ := hx
      have hw1 : ∀ k ∈ DataW.weights Tryd.prog 23 y1.1, k ≤ reachBytes := fun k hk => hw k (by
        unfold DataW.weights
        rw [Tryd.underlying25]
        exact List.mem_append_right _ (List.mem_append_left _ hk))
      have hw2 : ∀ k ∈ DataW.weights Tryd.prog 23 y2.1, k ≤ reachBytes := fun k hk => hw k (by
        unfold DataW.weights
        rw [Tryd.underlying25]
        exact List.mem_append_right _ (List.mem_append_right _ (List.mem_append_left _ hk)))
      obtain ⟨X1, c1, S, rfl, q1, q2, q3⟩ := open_dates (d := y1.1) (p := y1.2) g1 hw1
      obtain ⟨X2, c2, E, rfl, q4, q5, q6⟩ := open_dates (d := y2.1) (p := y2.2) g2 hw2
      exact ⟨fun k => [t0, t1, t2, t3, t4, t5, t6].getD k false, X1, X2, c1, c2, S, E, rfl, q1, q4, q2, q5, q3, q6⟩
end Go.Proofs.YtjifinacnofmiaaDoor.Ext
