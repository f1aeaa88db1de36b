/- ParseDate of the reference answers what cal's does. -/
import Derived.Test.YtiklakkkgmilnaaDoorCalFR
import Derived.Test.YtiklakkkgmilnaaDoorCalShapeR
import Derived.Test.YtiklakkkgmilnaaDoorGCxf22
set_option linter.unusedVariables false
set_option linter.unusedSimpArgs false
namespace Go.Proofs.YtiklakkkgmilnaaDoor.CalP
open Go.RowKit Go.IntWalk Go.Proofs.YtiklakkkgmilnaaDoorW.PrintWords Go.Proofs.YtiklakkkgmilnaaDoor.Ext Go.Proofs.YtiklakkkgmilnaaDoor.PCal Go.Proofs.YtiklakkkgmilnaaDoor.GC

theorem of_err {k : Nat} (hk : 30000 ≤ k) {n r1 r2 r3 r4 : Int} (h : cal_Of.f k n = some (r1, r2, r3, r4)) (h4 : r4 ≠ 0) : r1 = 0 ∧ r2 = 0 ∧ r3 = 0 := by
  by_cases c : n < 0 ∨ 3652424 < n
  · rw [cof_out k n c] at h; cases h; exact ⟨rfl, rfl, rfl⟩
  · obtain ⟨Y, M, D, hv, e⟩ := day_ex n (by omega) (by omega)
    subst e
    rw [cof_in k hk hv] at h; cases h; exact absurd rfl h4
theorem fw_err {y w d r1 r2 r3 r4 : Int} (h : cal_FromWeek.f 30001 y w d = some (r1, r2, r3, r4)) (h4 : r4 ≠ 0) : r1 = 0 ∧ r2 = 0 ∧ r3 = 0 := by
  rw [fromWeek_eq] at h
  split at h
  · exact of_err (by omega) h h4
  · cases h; exact ⟨rfl, rfl, rfl⟩
theorem SH_ok : SH.length = 6 ∧ ∀ h ∈ SH, h.size ≤ 20 ∧ noS h := by
  refine ⟨rfl, ?_⟩
  intro h hm
  have hh : h.size ≤ 20 ∧ (∀ i : Nat, i < h.size → bt h i ≠ 115) := by
    revert h
    decide
  exact hh
set_option maxRecDepth 100000 in
theorem rparse_eq (k : Nat) (hk : 40000 ≤ k) (s : ByteArray) : larderref03_ParseDate.f k s = cal_ParseDate.f s := by
  unfold larderref03_ParseDate.f cal_ParseDate.f
  by_cases h : s.size > 64
  · rw [if_pos (by omega), if_pos h]
  rw [if_neg (by omega), if_neg h]
  have hs := shaped_eq k s SH (by decide) SH_ok.2 (by have := SH_ok.1; omega)
  have hs' : larderref03_shaped.f k s (([(⟨#[100, 100, 100, 100, 45, 100, 100, 45, 100, 100]⟩ : ByteArray), (⟨#[100, 100, 100, 100, 100, 100, 100, 100]⟩ : ByteArray), (⟨#[100, 100, 100, 100, 45, 100, 100, 100]⟩ : ByteArray), (⟨#[100, 100, 100, 100, 100, 100, 100]⟩ : ByteArray), (⟨#[100, 100, 100, 100, 45, 87, 100, 100, 45, 100]⟩ : ByteArray), (⟨#[100, 100, 100, 100, 87, 100, 100, 100]⟩ : ByteArray)] : List ByteArray)) = some (rshp s SH 0 0) := hs
  rw [hs']
  simp only [Option.bind_some]
  rcases rshp_shp s SH 0 0 with ⟨c, e⟩ | ⟨c, e⟩
  case inr => rw [e, if_pos (by omega), if_pos (by omega)]
  rw [e]
  simp only
  rw [if_neg (by omega), if_neg (by omega)]
  obtain ⟨j, hj, e1, e2, e3⟩ := shp_get s SH 0 0 c
  rw [e1]
  simp only [Nat.zero_add]
  obtain ⟨k, rfl⟩ : ∃ q, k = q + 5 := ⟨k - 5, by omega⟩
  have hj6 : j < 6 := hj
  match j, hj6 with
  | 0, _ =>
    have hz : fit s ⟨#[100, 100, 100, 100, 45, 100, 100, 45, 100, 100]⟩ = 10 := e3
    have hs : s.size = 10 := by rw [← hz]; exact e2.symm
    have d0 := dig_of hz 0 4 (by decide) (by decide)
    have d1 := dig_of hz 5 7 (by decide) (by decide)
    have d2 := dig_of hz 8 10 (by decide) (by decide)
    have n0 := rnum_eq (k + 5) s 0 4 (by omega) (by omega) (by omega) d0 (by omega)
    have n1 := rnum_eq (k + 4) s 5 2 (by omega) (by omega) (by omega) d1 (by omega)
    have n2 := rnum_eq (k + 3) s 8 2 (by omega) (by omega) (by omega) d2 (by omega)
    show (larderref03_num.f (k + 5) s (0 : Nat) (4 : Nat)).bind _ = some (ymR (nmv s 0 4) (nmv s 5 2) (nmv s 8 2) 5 8)
    rw [n0]
    simp only [Option.bind_some]
    show (larderref03_ParseDate.j0 (k + 5) s 0 (nmv s 0 4) 0 true 0 0 0) = _
    rw [larderref03_ParseDate.j0, if_pos rfl, show wrap64 (5 - 0) = 5 by decide +kernel, show wrap64 (8 - wrap64 (2 * 0)) = 8 by decide +kernel]
    show (larderref03_num.f (k + 4) s (5 : Nat) (2 : Nat)).bind _ = _
    rw [n1]
    simp only [Option.bind_some]
    generalize nmv s 0 4 = y at *
    generalize nmv s 5 2 = a at *
    generalize hb : nmv s 8 2 = b at *
    unfold ymR
    by_cases c1 : 1 ≤ a ∧ a ≤ 12
    · rw [if_neg (by omega), if_pos c1, decide_eq_false (by omega), larderref03_ParseDate.j1, if_neg (by decide)]
      show (larderref03_num.f (k + 3) s (8 : Nat) (2 : Nat)).bind _ = _
      rw [n2]
      simp only [Option.bind_some]
      by_cases c2 : b < 1
      · rw [if_pos c2, if_neg (by omega)]; first | done | rfl
      · rw [if_neg c2, long_eq (k + 3) y a (by omega) c1.1 c1.2]
        simp only [Option.bind_some]
        by_cases c3 : b > dim y a
        · rw [if_pos c3, if_neg (by omega)]; first | done | rfl
        · rw [if_neg c3, if_pos (by omega)]
    · rw [if_neg c1]
      by_cases c2 : a < 1
      · rw [if_pos c2, larderref03_ParseDate.j1, if_pos rfl]; first | done | rfl
      · rw [if_neg c2, decide_eq_true (by omega), larderref03_ParseDate.j1, if_pos rfl]; first | done | rfl
  | 1, _ =>
    have hz : fit s ⟨#[100, 100, 100, 100, 100, 100, 100, 100]⟩ = 8 := e3
    have hs : s.size = 8 := by rw [← hz]; exact e2.symm
    have d0 := dig_of hz 0 4 (by decide) (by decide)
    have d1 := dig_of hz 4 6 (by decide) (by decide)
    have d2 := dig_of hz 6 8 (by decide) (by decide)
    have n0 := rnum_eq (k + 5) s 0 4 (by omega) (by omega) (by omega) d0 (by omega)
    have n1 := rnum_eq (k + 4) s 4 2 (by omega) (by omega) (by omega) d1 (by omega)
    have n2 := rnum_eq (k + 3) s 6 2 (by omega) (by omega) (by omega) d2 (by omega)
    show (larderref03_num.f (k + 5) s (0 : Nat) (4 : Nat)).bind _ = some (ymR (nmv s 0 4) (nmv s 4 2) (nmv s 6 2) 4 6)
    rw [n0]
    simp only [Option.bind_some]
    show (larderref03_ParseDate.j0 (k + 5) s 1 (nmv s 0 4) 1 true 0 0 0) = _
    rw [larderref03_ParseDate.j0, if_pos rfl, show wrap64 (5 - 1) = 4 by decide +kernel, show wrap64 (8 - wrap64 (2 * 1)) = 6 by decide +kernel]
    show (larderref03_num.f (k + 4) s (4 : Nat) (2 : Nat)).bind _ = _
    rw [n1]
    simp only [Option.bind_some]
    generalize nmv s 0 4 = y at *
    generalize nmv s 4 2 = a at *
    generalize hb : nmv s 6 2 = b at *
    unfold ymR
    by_cases c1 : 1 ≤ a ∧ a ≤ 12
    · rw [if_neg (by omega), if_pos c1, decide_eq_false (by omega), larderref03_ParseDate.j1, if_neg (by decide)]
      show (larderref03_num.f (k + 3) s (6 : Nat) (2 : Nat)).bind _ = _
      rw [n2]
      simp only [Option.bind_some]
      by_cases c2 : b < 1
      · rw [if_pos c2, if_neg (by omega)]; first | done | rfl
      · rw [if_neg c2, long_eq (k + 3) y a (by omega) c1.1 c1.2]
        simp only [Option.bind_some]
        by_cases c3 : b > dim y a
        · rw [if_pos c3, if_neg (by omega)]; first | done | rfl
        · rw [if_neg c3, if_pos (by omega)]
    · rw [if_neg c1]
      by_cases c2 : a < 1
      · rw [if_pos c2, larderref03_ParseDate.j1, if_pos rfl]; first | done | rfl
      · rw [if_neg c2, decide_eq_true (by omega), larderref03_ParseDate.j1, if_pos rfl]; first | done | rfl
  | 2, _ =>
    have hz : fit s ⟨#[100, 100, 100, 100, 45, 100, 100, 100]⟩ = 8 := e3
    have hs : s.size = 8 := by rw [← hz]; exact e2.symm
    have d0 := dig_of hz 0 4 (by decide) (by decide)
    have d1 := dig_of hz 5 8 (by decide) (by decide)
    have n0 := rnum_eq (k + 5) s 0 4 (by omega) (by omega) (by omega) d0 (by omega)
    have n1 := rnum_eq (k + 3) s 5 3 (by omega) (by omega) (by omega) d1 (by omega)
    have b0 := nmv_bd s 0 4 (fun j j1 j2 => d0 j j1 j2)
    show (larderref03_num.f (k + 5) s (0 : Nat) (4 : Nat)).bind _ = some (ydR (nmv s 0 4) (nmv s 5 3) 5)
    rw [n0]
    simp only [Option.bind_some]
    show (larderref03_ParseDate.j0 (k + 5) s 2 (nmv s 0 4) 2 false 0 0 0) = _
    rw [larderref03_ParseDate.j0, if_neg (by decide), if_pos rfl]
    show (larderref03_ParseDate.j2 (k + 4) s 2 (nmv s 0 4) true 0 0 0) = _
    rw [larderref03_ParseDate.j2, if_pos rfl, show wrap64 (7 - 2) = 5 by decide +kernel]
    show (larderref03_num.f (k + 3) s (5 : Nat) (3 : Nat)).bind _ = _
    rw [n1]
    simp only [Option.bind_some]
    generalize nmv s 0 4 = y at *
    generalize nmv s 5 3 = a at *
    have y9 : 0 ≤ y ∧ y ≤ 9999 := by omega
    have g1 := beg_bd y y9.1 (by omega)
    have g2 := beg_bd (y + 1) (by omega) (by omega)
    unfold ydR
    by_cases c1 : 1 ≤ a ∧ a ≤ beg (y + 1) - beg y
    · rw [if_neg (by omega), if_pos c1, w64 (x := y + 1) (by omega) (by omega), ahead_eq (y + 1) (by omega) (by omega)]
      simp only [Option.bind_some]
      rw [ahead_eq y (by omega) (by omega)]
      simp only [Option.bind_some]
      rw [w64 (x := beg (y + 1) - beg y) (by omega) (by omega), decide_eq_false (by omega), larderref03_ParseDate.j3, if_neg (by decide), ahead_eq y (by omega) (by omega)]
      simp only [Option.bind_some]
      rw [w64 (x := beg y + a) (by omega) (by omega), w64 (x := beg y + a - 1) (by omega) (by omega)]
      obtain ⟨Y, M, D, hv, en⟩ := day_ex (beg y + a - 1) (by omega) (by omega)
      rw [← en, rdate_eq (k + 2) (by omega) hv, cof_in 30000 (Nat.le_refl _) hv]
      rfl
    · rw [if_neg c1]
      by_cases c2 : a < 1
      · rw [if_pos c2, larderref03_ParseDate.j3, if_pos rfl]; first | done | rfl
      · rw [if_neg c2, w64 (x := y + 1) (by omega) (by omega), ahead_eq (y + 1) (by omega) (by omega)]
        simp only [Option.bind_some]
        rw [ahead_eq y (by omega) (by omega)]
        simp only [Option.bind_some]
        rw [w64 (x := beg (y + 1) - beg y) (by omega) (by omega), decide_eq_true (by omega), larderref03_ParseDate.j3, if_pos rfl]; first | done | rfl
  | 3, _ =>
    have hz : fit s ⟨#[100, 100, 100, 100, 100, 100, 100]⟩ = 7 := e3
    have hs : s.size = 7 := by rw [← hz]; exact e2.symm
    have d0 := dig_of hz 0 4 (by decide) (by decide)
    have d1 := dig_of hz 4 7 (by decide) (by decide)
    have n0 := rnum_eq (k + 5) s 0 4 (by omega) (by omega) (by omega) d0 (by omega)
    have n1 := rnum_eq (k + 3) s 4 3 (by omega) (by omega) (by omega) d1 (by omega)
    have b0 := nmv_bd s 0 4 (fun j j1 j2 => d0 j j1 j2)
    show (larderref03_num.f (k + 5) s (0 : Nat) (4 : Nat)).bind _ = some (ydR (nmv s 0 4) (nmv s 4 3) 4)
    rw [n0]
    simp only [Option.bind_some]
    show (larderref03_ParseDate.j0 (k + 5) s 3 (nmv s 0 4) 3 false 0 0 0) = _
    rw [larderref03_ParseDate.j0, if_neg (by decide), if_neg (by decide)]
    show (larderref03_ParseDate.j2 (k + 4) s 3 (nmv s 0 4) true 0 0 0) = _
    rw [larderref03_ParseDate.j2, if_pos rfl, show wrap64 (7 - 3) = 4 by decide +kernel]
    show (larderref03_num.f (k + 3) s (4 : Nat) (3 : Nat)).bind _ = _
    rw [n1]
    simp only [Option.bind_some]
    generalize nmv s 0 4 = y at *
    generalize nmv s 4 3 = a at *
    have y9 : 0 ≤ y ∧ y ≤ 9999 := by omega
    have g1 := beg_bd y y9.1 (by omega)
    have g2 := beg_bd (y + 1) (by omega) (by omega)
    unfold ydR
    by_cases c1 : 1 ≤ a ∧ a ≤ beg (y + 1) - beg y
    · rw [if_neg (by omega), if_pos c1, w64 (x := y + 1) (by omega) (by omega), ahead_eq (y + 1) (by omega) (by omega)]
      simp only [Option.bind_some]
      rw [ahead_eq y (by omega) (by omega)]
      simp only [Option.bind_some]
      rw [w64 (x := beg (y + 1) - beg y) (by omega) (by omega), decide_eq_false (by omega), larderref03_ParseDate.j3, if_neg (by decide), ahead_eq y (by omega) (by omega)]
      simp only [Option.bind_some]
      rw [w64 (x := beg y + a) (by omega) (by omega), w64 (x := beg y + a - 1) (by omega) (by omega)]
      obtain ⟨Y, M, D, hv, en⟩ := day_ex (beg y + a - 1) (by omega) (by omega)
      rw [← en, rdate_eq (k + 2) (by omega) hv, cof_in 30000 (Nat.le_refl _) hv]
      rfl
    · rw [if_neg c1]
      by_cases c2 : a < 1
      · rw [if_pos c2, larderref03_ParseDate.j3, if_pos rfl]; first | done | rfl
      · rw [if_neg c2, w64 (x := y + 1) (by omega) (by omega), ahead_eq (y + 1) (by omega) (by omega)]
        simp only [Option.bind_some]
        rw [ahead_eq y (by omega) (by omega)]
        simp only [Option.bind_some]
        rw [w64 (x := beg (y + 1) - beg y) (by omega) (by omega), decide_eq_true (by omega), larderref03_ParseDate.j3, if_pos rfl]; first | done | rfl
  | 4, _ =>
    have hz : fit s ⟨#[100, 100, 100, 100, 45, 87, 100, 100, 45, 100]⟩ = 10 := e3
    have hs : s.size = 10 := by rw [← hz]; exact e2.symm
    have d0 := dig_of hz 0 4 (by decide) (by decide)
    have d1 := dig_of hz 6 8 (by decide) (by decide)
    have d2 := dig_of hz 9 10 (by decide) (by decide)
    have n0 := rnum_eq (k + 5) s 0 4 (by omega) (by omega) (by omega) d0 (by omega)
    have n1 := rnum_eq (k + 2) s 6 2 (by omega) (by omega) (by omega) d1 (by omega)
    have n2 := rnum_eq (k + 1) s 9 1 (by omega) (by omega) (by omega) d2 (by omega)
    have b0 := nmv_bd s 0 4 (fun j j1 j2 => d0 j j1 j2)
    show (larderref03_num.f (k + 5) s (0 : Nat) (4 : Nat)).bind _ = some (ywR (nmv s 0 4) (nmv s 6 2) (nmv s 9 1) 6 9)
    rw [n0]
    simp only [Option.bind_some]
    show (larderref03_ParseDate.j0 (k + 5) s 4 (nmv s 0 4) 4 false 0 0 0) = _
    rw [larderref03_ParseDate.j0, if_neg (by decide), if_neg (by decide)]
    show (larderref03_ParseDate.j2 (k + 4) s 4 (nmv s 0 4) false 0 0 0) = _
    rw [larderref03_ParseDate.j2, if_neg (by decide), if_neg (by decide), show wrap64 (10 - 4) = 6 by decide +kernel]
    show (larderref03_ParseDate.j4 (k + 3) s (nmv s 0 4) 6 9 0 0 0) = _
    rw [larderref03_ParseDate.j4]
    show (larderref03_num.f (k + 2) s (6 : Nat) (2 : Nat)).bind _ = _
    rw [n1]
    simp only [Option.bind_some]
    generalize nmv s 0 4 = y at *
    generalize nmv s 6 2 = a at *
    generalize hb : nmv s 9 1 = b at *
    have y9 : 0 ≤ y ∧ y ≤ 9999 := by omega
    unfold ywR
    by_cases c1 : 1 ≤ a ∧ a ≤ wks y
    · rw [if_neg (by omega), if_pos c1, rweeks_eq y (by omega) (by omega)]
      simp only [Option.bind_some]
      rw [decide_eq_false (by omega), larderref03_ParseDate.j5, if_neg (by decide)]
      show (larderref03_num.f (k + 1) s (9 : Nat) (1 : Nat)).bind _ = _
      rw [n2]
      simp only [Option.bind_some]
      by_cases c2 : b < 1
      · rw [if_pos c2, if_neg (by omega)]
      · rw [if_neg c2]
        by_cases c3 : b > 7
        · rw [if_pos c3, if_neg (by omega)]
        · rw [if_neg c3, if_pos (by omega)]
          obtain ⟨⟨r1, r2, r3, r4⟩, hr⟩ := fw_ex y a b
          rw [(hr (k + 1) (by omega)).2, (hr 30001 (Nat.le_refl _)).1]
          simp only [Option.bind_some, fin4]
          by_cases c4 : r4 = 0
          · rw [if_pos c4, c4]
          · rw [if_neg c4]
            obtain ⟨rfl, rfl, rfl⟩ := fw_err (hr 30001 (Nat.le_refl _)).1 c4
            rfl
    · rw [if_neg c1]
      by_cases c2 : a < 1
      · rw [if_pos c2, larderref03_ParseDate.j5, if_pos rfl]
      · rw [if_neg c2, rweeks_eq y (by omega) (by omega)]
        simp only [Option.bind_some]
        rw [decide_eq_true (by omega), larderref03_ParseDate.j5, if_pos rfl]
  | 5, _ =>
    have hz : fit s ⟨#[100, 100, 100, 100, 87, 100, 100, 100]⟩ = 8 := e3
    have hs : s.size = 8 := by rw [← hz]; exact e2.symm
    have d0 := dig_of hz 0 4 (by decide) (by decide)
    have d1 := dig_of hz 5 7 (by decide) (by decide)
    have d2 := dig_of hz 7 8 (by decide) (by decide)
    have n0 := rnum_eq (k + 5) s 0 4 (by omega) (by omega) (by omega) d0 (by omega)
    have n1 := rnum_eq (k + 2) s 5 2 (by omega) (by omega) (by omega) d1 (by omega)
    have n2 := rnum_eq (k + 1) s 7 1 (by omega) (by omega) (by omega) d2 (by omega)
    have b0 := nmv_bd s 0 4 (fun j j1 j2 => d0 j j1 j2)
    show (larderref03_num.f (k + 5) s (0 : Nat) (4 : Nat)).bind _ = some (ywR (nmv s 0 4) (nmv s 5 2) (nmv s 7 1) 5 7)
    rw [n0]
    simp only [Option.bind_some]
    show (larderref03_ParseDate.j0 (k + 5) s 5 (nmv s 0 4) 5 false 0 0 0) = _
    rw [larderref03_ParseDate.j0, if_neg (by decide), if_neg (by decide)]
    show (larderref03_ParseDate.j2 (k + 4) s 5 (nmv s 0 4) false 0 0 0) = _
    rw [larderref03_ParseDate.j2, if_neg (by decide), if_pos rfl, show wrap64 (10 - 5) = 5 by decide +kernel]
    show (larderref03_ParseDate.j4 (k + 3) s (nmv s 0 4) 5 7 0 0 0) = _
    rw [larderref03_ParseDate.j4]
    show (larderref03_num.f (k + 2) s (5 : Nat) (2 : Nat)).bind _ = _
    rw [n1]
    simp only [Option.bind_some]
    generalize nmv s 0 4 = y at *
    generalize nmv s 5 2 = a at *
    generalize hb : nmv s 7 1 = b at *
    have y9 : 0 ≤ y ∧ y ≤ 9999 := by omega
    unfold ywR
    by_cases c1 : 1 ≤ a ∧ a ≤ wks y
    · rw [if_neg (by omega), if_pos c1, rweeks_eq y (by omega) (by omega)]
      simp only [Option.bind_some]
      rw [decide_eq_false (by omega), larderref03_ParseDate.j5, if_neg (by decide)]
      show (larderref03_num.f (k + 1) s (7 : Nat) (1 : Nat)).bind _ = _
      rw [n2]
      simp only [Option.bind_some]
      by_cases c2 : b < 1
      · rw [if_pos c2, if_neg (by omega)]
      · rw [if_neg c2]
        by_cases c3 : b > 7
        · rw [if_pos c3, if_neg (by omega)]
        · rw [if_neg c3, if_pos (by omega)]
          obtain ⟨⟨r1, r2, r3, r4⟩, hr⟩ := fw_ex y a b
          rw [(hr (k + 1) (by omega)).2, (hr 30001 (Nat.le_refl _)).1]
          simp only [Option.bind_some, fin4]
          by_cases c4 : r4 = 0
          · rw [if_pos c4, c4]
          · rw [if_neg c4]
            obtain ⟨rfl, rfl, rfl⟩ := fw_err (hr 30001 (Nat.le_refl _)).1 c4
            rfl
    · rw [if_neg c1]
      by_cases c2 : a < 1
      · rw [if_pos c2, larderref03_ParseDate.j5, if_pos rfl]
      · rw [if_neg c2, rweeks_eq y (by omega) (by omega)]
        simp only [Option.bind_some]
        rw [decide_eq_true (by omega), larderref03_ParseDate.j5, if_pos rfl]
theorem cparse_some (s : ByteArray) : ∃ r, cal_ParseDate.f s = some r := by
  unfold cal_ParseDate.f
  split
  · exact ⟨_, rfl⟩
  · split <;> exact ⟨_, rfl⟩
end Go.Proofs.YtiklakkkgmilnaaDoor.CalP
