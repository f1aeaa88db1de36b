/- The law CalForth in plain numbers: a span of days and clock times, there and back, is the same instant, and is as many seconds as it says. -/
import Derived.Test.YtofafljfabgpmaaDoorCalAddP
import Derived.Test.YtofafljfabgpmaaDoorCalAtP
import Derived.Test.YtofafljfabgpmaaDoorGCxf12
namespace Go.Proofs.YtofafljfabgpmaaDoor.CalP
open Go.RowKit Go.Proofs.YtofafljfabgpmaaDoorW.PrintWords Go.Proofs.YtofafljfabgpmaaDoor.Ext Go.Proofs.YtofafljfabgpmaaDoor.PCal Go.Proofs.YtofafljfabgpmaaDoor.GC
/-- without years and months: so many seconds more, or less -/
theorem add_plain (k : Nat) (hk : 30010 ≤ k) (sec wk d h mi s : Int) (back : Bool) (s0 : 0 ≤ sec) (s1 : sec ≤ 315569519999) (g : goodB 0 0 wk d h mi s = true) :
    cal_AddSpan.f k sec 0 0 wk d h mi s back = some (if sec + sgn back * rst wk d h mi s < 0 ∨ sec + sgn back * rst wk d h mi s > 315569519999 then (0, 35) else (sec + sgn back * rst wk d h mi s, 0)) := by
  obtain ⟨Y, M, D, hv, hn⟩ := day_ex (sec / 86400) (by omega) (by omega)
  rw [(addSpan_eq k hk hv sec 0 0 wk d h mi s back s0 s1 hn g).1]
  obtain ⟨h1, h2, h3, h4, h5, h6⟩ := vld_out hv
  have hm : mon Y M 0 0 back = 12 * Y + M - 1 := by unfold mon; rcases sgn_cases back with ⟨_, e⟩ | ⟨_, e⟩ <;> rw [e] <;> omega
  have e1 : (12 * Y + M - 1) / 12 = Y := by omega
  have e2 : (12 * Y + M - 1) % 12 + 1 = M := by omega
  have e3 : mn D (dim Y M) = D := by unfold mn; rw [if_neg (by omega)]
  have hN : newN (12 * Y + M - 1) D sec wk d h mi s back = sec + sgn back * rst wk d h mi s := by
    unfold newN; rw [e1, e2, e3, hn]; omega
  unfold addE
  rw [hm, hN, if_neg (show ¬ (12 * Y + M - 1 < 0 ∨ 12 * Y + M - 1 ≥ 120000) by omega)]
theorem good_days (d h mi s : Int) (a : 0 ≤ d ∧ d ≤ 999999999) (b : 0 ≤ h ∧ h ≤ 999999999) (c : 0 ≤ mi ∧ mi ≤ 999999999) (e : 0 ≤ s ∧ s ≤ 999999999) : goodB 0 0 0 d h mi s = true := by
  simp [goodB, allOk, okB, a, b, c, e]
theorem calForth_pure (x dd hh mm ss : Int) (b0 : -9223372036854775808 ≤ x ∧ x ≤ 9223372036854775807) (b1 : -9223372036854775808 ≤ dd ∧ dd ≤ 9223372036854775807) (b2 : -9223372036854775808 ≤ hh ∧ hh ≤ 9223372036854775807)
    (b3 : -9223372036854775808 ≤ mm ∧ mm ≤ 9223372036854775807) (b4 : -9223372036854775808 ≤ ss ∧ ss ≤ 9223372036854775807) : ∃ k, larderlaw03_CalForth.f k x dd hh mm ss = some true := by
  obtain ⟨k, hk⟩ : ∃ k, 30010 ≤ k := ⟨30010, Nat.le_refl _⟩
  obtain ⟨d, hd, d0, d1⟩ := within_eq dd 0 1000000 b1 (by omega) (by omega) (by omega)
  obtain ⟨h, hh', h0, h1⟩ := within_eq hh 0 100000 b2 (by omega) (by omega) (by omega)
  obtain ⟨mi, hm, m0, m1⟩ := within_eq mm 0 100000 b3 (by omega) (by omega) (by omega)
  obtain ⟨s, hs, s0, s1⟩ := within_eq ss 0 999999999 b4 (by omega) (by omega) (by omega)
  obtain ⟨t, ht, t0, t1⟩ := within_eq x 0 315569519999 b0 (by omega) (by omega) (by omega)
  have g := good_days d h mi s (by omega) (by omega) (by omega) (by omega)
  have R : rst 0 d h mi s = d * 86400 + h * 3600 + mi * 60 + s := by unfold rst; omega
  have W : wrap64 (wrap64 (wrap64 (wrap64 (d * 86400) + wrap64 (h * 3600)) + wrap64 (mi * 60)) + s) = d * 86400 + h * 3600 + mi * 60 + s := by unfold wrap64; omega
  refine ⟨k, ?_⟩
  unfold larderlaw03_CalForth.f
  rw [hd, hh', hm, hs, ht]
  simp only [Option.bind_some]
  rw [W, w64 (x := t + (d * 86400 + h * 3600 + mi * 60 + s)) (by omega) (by omega), add_plain k hk t 0 d h mi s false t0 t1 g, R]
  simp only [Option.bind_some]
  have sg : sgn false = 1 := rfl
  have sb : sgn true = -1 := rfl
  generalize hn : d * 86400 + h * 3600 + mi * 60 + s = n at *
  rw [sg, show t + 1 * n = t + n by omega]
  by_cases c : t + n > 315569519999
  · rw [if_pos c, if_pos (Or.inr c), add_plain k hk t 0 0 0 0 0 false t0 t1 (by decide)]
    simp only [Option.bind_some]
    have e : t + sgn false * rst 0 0 0 0 0 = t := by unfold rst; omega
    rw [e, if_neg (show ¬ (t < 0 ∨ t > 315569519999) by omega)]
    simp
  · rw [if_neg c, if_neg (show ¬ (t + n < 0 ∨ t + n > 315569519999) by omega)]
    rw [add_plain k hk (t + n) 0 d h mi s true (by omega) (by omega) g, R, sb, show t + n + -1 * n = t by omega, if_neg (show ¬ (t < 0 ∨ t > 315569519999) by omega)]
    simp only [Option.bind_some]
    rw [add_plain k hk t 1 0 0 0 0 false t0 t1 (by decide)]
    have e : t + sgn false * rst 1 0 0 0 0 = t + 604800 := by unfold rst; omega
    rw [e, w64 (x := t + 604800) (by omega) (by omega)]
    simp only [Option.bind_some]
    by_cases q : t + 604800 > 315569519999
    · rw [if_pos (Or.inr q)]
      simp [q]
    · rw [if_neg (show ¬ (t + 604800 < 0 ∨ t + 604800 > 315569519999) by omega)]
      simp
end Go.Proofs.YtofafljfabgpmaaDoor.CalP
