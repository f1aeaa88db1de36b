/- What cal's adding of a span comes to: months by their number, then days and clock times. -/
import Derived.Test.YtiklakkkgmilnaaDoorCalP
import Derived.Test.YtiklakkkgmilnaaDoorCalSpanX
import Derived.Test.YtiklakkkgmilnaaDoorGCxf16
namespace Go.Proofs.YtiklakkkgmilnaaDoor.CalP
open Go.RowKit Go.Proofs.YtiklakkkgmilnaaDoorW.PrintWords Go.Proofs.YtiklakkkgmilnaaDoor.Ext Go.Proofs.YtiklakkkgmilnaaDoor.PCal Go.Proofs.YtiklakkkgmilnaaDoor.GC

/-- the span may be -/
def goodB (y mo wk d h mi s : Int) : Bool := allOk y mo d h mi s && okB wk && (decide (wk = 0) || decide (pS y mo d h mi s 6 = 0))
def sgn (back : Bool) : Int := if back = true then -1 else 1
def rst (wk d h mi s : Int) : Int := (7 * wk + d) * 86400 + 3600 * h + 60 * mi + s
def mon (Y M y mo : Int) (back : Bool) : Int := 12 * Y + M - 1 + sgn back * (12 * y + mo)
def newN (m D sec wk d h mi s : Int) (back : Bool) : Int := num (m / 12) (m % 12 + 1) (mn D (dim (m / 12) (m % 12 + 1))) * 86400 + sec % 86400 + sgn back * rst wk d h mi s
def addE (Y M D sec y mo wk d h mi s : Int) (back : Bool) : Int × Int :=
  if mon Y M y mo back < 0 ∨ mon Y M y mo back ≥ 120000 then (0, 35)
  else if newN (mon Y M y mo back) D sec wk d h mi s back < 0 ∨ newN (mon Y M y mo back) D sec wk d h mi s back > 315569519999 then (0, 35)
  else (newN (mon Y M y mo back) D sec wk d h mi s back, 0)
theorem span_good {y mo wk d h mi s : Int} (g : goodB y mo wk d h mi s = true) : ∃ t, cal_PrintSpan.f y mo wk d h mi s = some (t, 0) := by
  unfold goodB okB at g
  simp only [Bool.and_eq_true, Bool.or_eq_true, decide_eq_true_eq] at g
  obtain ⟨⟨ha, hw⟩, hz⟩ := g
  have hs := pS_bd (y := y) (mo := mo) (d := d) (h := h) (mi := mi) (s := s) 6 fun j _ => of_all ha j
  unfold cal_PrintSpan.f
  rw [ha, if_pos rfl, if_neg (show ¬ (wk < 0 ∨ wk > 999999999 ∨ (wk > 0 ∧ pS y mo d h mi s 6 > 0)) by omega)]
  by_cases c : wk > 0
  · rw [if_pos c]; exact ⟨_, rfl⟩
  · rw [if_neg c]
    by_cases c2 : pS y mo d h mi s 6 = 0
    · rw [if_pos c2]; exact ⟨_, rfl⟩
    · rw [if_neg c2]; exact ⟨_, rfl⟩
theorem span_not {y mo wk d h mi s : Int} (g : goodB y mo wk d h mi s = false) : cal_PrintSpan.f y mo wk d h mi s = some ((⟨#[]⟩ : ByteArray), 34) := by
  unfold cal_PrintSpan.f
  cases ha : allOk y mo d h mi s with
  | false => rw [if_neg (by simp)]
  | true =>
    have hs := pS_bd (y := y) (mo := mo) (d := d) (h := h) (mi := mi) (s := s) 6 fun j _ => of_all ha j
    rw [if_pos rfl]
    by_cases c : wk < 0 ∨ wk > 999999999 ∨ (wk > 0 ∧ pS y mo d h mi s 6 > 0)
    · rw [if_pos c]
    · exfalso
      have : goodB y mo wk d h mi s = true := by
        unfold goodB okB
        rw [ha]
        simp only [Bool.and_eq_true, Bool.or_eq_true, decide_eq_true_eq, true_and]
        omega
      rw [g] at this; cases this
theorem good_bd {y mo wk d h mi s : Int} (g : goodB y mo wk d h mi s = true) : (0 ≤ y ∧ y ≤ 999999999) ∧ (0 ≤ mo ∧ mo ≤ 999999999) ∧ (0 ≤ wk ∧ wk ≤ 999999999) ∧ (0 ≤ d ∧ d ≤ 999999999) ∧ (0 ≤ h ∧ h ≤ 999999999) ∧ (0 ≤ mi ∧ mi ≤ 999999999) ∧ (0 ≤ s ∧ s ≤ 999999999) := by
  unfold goodB at g
  simp only [Bool.and_eq_true] at g
  obtain ⟨⟨ha, hw⟩, _⟩ := g
  exact ⟨of_all ha 0, of_all ha 1, okB_out hw, of_all ha 2, of_all ha 3, of_all ha 4, of_all ha 5⟩
theorem sgn_cases (back : Bool) : (back = true ∧ sgn back = -1) ∨ (back = false ∧ sgn back = 1) := by cases back <;> simp [sgn]
theorem min_vld {Y M D : Int} (hv : vldB Y M D = true) (m : Int) (h0 : 0 ≤ m) (h1 : m < 120000) : vldB (m / 12) (m % 12 + 1) (mn D (dim (m / 12) (m % 12 + 1))) = true := by
  obtain ⟨_, _, _, _, h5, h6⟩ := vld_out hv
  have hd := dim_bd (m / 12) (m % 12 + 1) (by omega) (by omega)
  refine vld_mk ⟨by omega, by omega, by omega, by omega, ?_, ?_⟩
  · unfold mn; split <;> omega
  · unfold mn; split <;> omega

/-- the last steps of both, behind the months -/
theorem add_j2 (k : Nat) (hk : 30 ≤ k) {Y M D : Int} (hv : vldB Y M D = true) (m sec y mo wk d h mi s : Int) (back : Bool) (m0 : 0 ≤ m) (m1 : m < 120000) (s0 : 0 ≤ sec) (_s1 : sec ≤ 315569519999) (g : goodB y mo wk d h mi s = true) :
    cal_AddSpan.j2 k sec (sgn back) m false y mo wk d h mi s Y M D = some (if newN m D sec wk d h mi s back < 0 ∨ newN m D sec wk d h mi s back > 315569519999 then (0, 35) else (newN m D sec wk d h mi s back, 0)) := by
  obtain ⟨k, rfl⟩ : ∃ q, k = q + 1 := ⟨k - 1, by omega⟩
  obtain ⟨_, _, b2, b3, b4, b5, b6⟩ := good_bd g
  have hmv := min_vld hv m m0 m1
  obtain ⟨n1, n2, n3, n4⟩ := num_bd hmv
  have t1 : wrap64 (Int.tdiv m 12) = m / 12 := by rw [td _ _ m0, w64 (by omega) (by omega)]
  have t2 : wrap64 (Int.tmod m 12 + 1) = m % 12 + 1 := by rw [tm _ _ m0, w64 (by omega) (by omega)]
  have t3 : Int.tmod sec 86400 = sec % 86400 := tm _ _ s0
  have R : wrap64 (wrap64 (wrap64 (wrap64 (wrap64 (wrap64 (7 * wk) + d) * 86400) + wrap64 (3600 * h)) + wrap64 (60 * mi)) + s) = rst wk d h mi s := by unfold rst; unfold wrap64; omega
  have Rb : 0 ≤ rst wk d h mi s ∧ rst wk d h mi s ≤ 800000000000000 := by unfold rst; omega
  have hsg := sgn_cases back
  have SR : wrap64 (sgn back * rst wk d h mi s) = sgn back * rst wk d h mi s := by rcases hsg with ⟨_, e⟩ | ⟨_, e⟩ <;> rw [e] <;> exact w64 (by omega) (by omega)
  have V : wrap64 (wrap64 (wrap64 (num (m / 12) (m % 12 + 1) (mn D (dim (m / 12) (m % 12 + 1))) * 86400) + sec % 86400) + sgn back * rst wk d h mi s) = newN m D sec wk d h mi s back := by
    unfold newN
    rcases hsg with ⟨_, e⟩ | ⟨_, e⟩ <;> rw [e] <;> unfold wrap64 <;> omega
  have fin : ∀ z : Int, (if z < 0 then some ((0 : Int), (35 : Int)) else if z > 315569519999 then some (0, 35) else some (z, 0)) = some (if z < 0 ∨ z > 315569519999 then (0, 35) else (z, 0)) := by
    intro z
    by_cases a : z < 0
    · rw [if_pos a, if_pos (Or.inl a)]
    · rw [if_neg a]
      by_cases b : z > 315569519999
      · rw [if_pos b, if_pos (Or.inr b)]
      · rw [if_neg b, if_neg (by omega)]
  simp only [cal_AddSpan.j2]
  rw [if_neg (by simp), t1, t2, daysOf_eq _ _ (by omega) (by omega)]
  simp only [Option.bind_some]
  rw [number_eq _ _ _ hmv]
  simp only [Option.bind_some]
  rw [t3, R, SR, V, fin]
theorem addSpan_eq (k : Nat) (hk : 30010 ≤ k) {Y M D : Int} (hv : vldB Y M D = true) (sec y mo wk d h mi s : Int) (back : Bool) (s0 : 0 ≤ sec) (s1 : sec ≤ 315569519999) (hn : num Y M D = sec / 86400) (g : goodB y mo wk d h mi s = true) :
    cal_AddSpan.f k sec y mo wk d h mi s back = some (addE Y M D sec y mo wk d h mi s back) := by
  obtain ⟨k, rfl⟩ : ∃ q, k = q + 2 := ⟨k - 2, by omega⟩
  obtain ⟨b0, b1, b2, b3, b4, b5, b6⟩ := good_bd g
  obtain ⟨h1, h2, h3, h4, _, _⟩ := vld_out hv
  obtain ⟨t, ht⟩ := span_good g
  have hsg := sgn_cases back
  have dd : wrap64 (Int.tdiv sec 86400) = num Y M D := by rw [td _ _ s0, hn, w64 (by omega) (by omega)]
  have mb : -20000000000 ≤ mon Y M y mo back ∧ mon Y M y mo back ≤ 20000000000 := by unfold mon; rcases hsg with ⟨_, e⟩ | ⟨_, e⟩ <;> rw [e] <;> omega
  have Rb : 0 ≤ rst wk d h mi s ∧ rst wk d h mi s ≤ 800000000000000 := by unfold rst; omega
  have Mc : wrap64 (wrap64 (wrap64 (wrap64 (12 * Y) + M) - 1) + wrap64 (sgn back * wrap64 (wrap64 (12 * y) + mo))) = mon Y M y mo back := by
    have e1 : wrap64 (wrap64 (12 * y) + mo) = 12 * y + mo := by rw [w64 (x := 12 * y) (by omega) (by omega), w64 (by omega) (by omega)]
    have e2 : wrap64 (sgn back * (12 * y + mo)) = sgn back * (12 * y + mo) := by rcases hsg with ⟨_, e⟩ | ⟨_, e⟩ <;> rw [e] <;> exact w64 (by omega) (by omega)
    rw [e1, e2, w64 (x := 12 * Y) (by omega) (by omega), w64 (x := 12 * Y + M) (by omega) (by omega), w64 (x := 12 * Y + M - 1) (by omega) (by omega)]
    exact w64 (by unfold mon at mb; omega) (by unfold mon at mb; omega)
  unfold addE
  unfold cal_AddSpan.f
  rw [if_neg (by omega), decide_eq_false (show ¬ sec > 315569519999 by omega)]
  simp only [cal_AddSpan.j0]
  rw [if_neg (by simp), ht]
  simp only [Option.bind_some]
  rw [if_pos trivial]
  have hj : (if back = true then cal_AddSpan.j1 (k + 1) sec (-1) y mo wk d h mi s else cal_AddSpan.j1 (k + 1) sec 1 y mo wk d h mi s) = cal_AddSpan.j1 (k + 1) sec (sgn back) y mo wk d h mi s := by
    cases back <;> simp [sgn]
  rw [hj]
  simp only [cal_AddSpan.j1]
  rw [dd, date_eq k (by omega) hv]
  simp only [Option.bind_some]
  rw [Mc]
  by_cases c0 : mon Y M y mo back < 0
  · rw [if_pos c0, if_pos (Or.inl c0)]
    obtain ⟨k, rfl⟩ : ∃ q, k = q + 1 := ⟨k - 1, by omega⟩
    simp [cal_AddSpan.j2]
  · rw [if_neg c0, td _ _ (by omega), w64 (x := mon Y M y mo back / 12) (by omega) (by omega)]
    by_cases c1 : mon Y M y mo back ≥ 120000
    · rw [decide_eq_true (by omega), if_pos (Or.inr c1)]
      obtain ⟨k, rfl⟩ : ∃ q, k = q + 1 := ⟨k - 1, by omega⟩
      simp [cal_AddSpan.j2]
    · rw [decide_eq_false (by omega), if_neg (show ¬ (mon Y M y mo back < 0 ∨ mon Y M y mo back ≥ 120000) by omega)]
      exact (add_j2 k (by omega) hv (mon Y M y mo back) sec y mo wk d h mi s back (by omega) (by omega) s0 s1 g)
end Go.Proofs.YtiklakkkgmilnaaDoor.CalP
