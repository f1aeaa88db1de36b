/- Which spans may be: what the reference's printed look at the parts comes to. -/
import Derived.Test.YtofafljfabgpmaaDoorCalSpanX
import Derived.Test.YtofafljfabgpmaaDoorGCxf50
namespace Go.Proofs.YtofafljfabgpmaaDoor.CalP
open Go.RowKit Go.IntWalk Go.Proofs.YtofafljfabgpmaaDoorW.PrintWords Go.Proofs.YtofafljfabgpmaaDoor.Ext Go.Proofs.YtofafljfabgpmaaDoor.GC

/-- the span may be -/
def goodB (y mo wk d h mi s : Int) : Bool := allOk y mo d h mi s && okB wk && (decide (wk = 0) || decide (pS y mo d h mi s 6 = 0))
theorem fits_step (k : Nat) (l : List Int) (c i : Int) (a0 a1 a2 a3 a4 a5 a6 : Int) (hl : l.length = 7) (h0 : 0 ≤ i) (h1 : i < 7) (c0 : 0 ≤ c) (c1 : c ≤ 100) :
    larderref03_fits.l0 (k + 2) l c i a0 a1 a2 a3 a4 a5 a6 = if okB (rd l i) = true then larderref03_fits.l0 k l (if i = 2 then c else if rd l i > 0 then c + 1 else c) (i + 1) a0 a1 a2 a3 a4 a5 a6 else some false := by
  have w1 : wrap64 (i + 1) = i + 1 := nw64 (by omega) (by omega)
  have w2 : wrap64 (c + 1) = c + 1 := nw64 (by omega) (by omega)
  simp only [larderref03_fits.l0, larderref03_fits.j1]
  rw [if_pos h1, if_pos h0, if_pos (by omega), w1, w2]
  cases o : okB (rd l i) with
  | true =>
    have b := okB_out o
    rw [if_neg (show ¬ rd l i < 0 by omega), decide_eq_false (show ¬ rd l i > 999999999 by omega), if_neg (show ¬ (false = true) by simp), if_pos (show true = true from rfl)]
    by_cases e : i = 2
    · simp only [if_pos e]
    · simp only [if_neg e]
      rw [if_pos h0, if_pos (by omega)]
      by_cases g : rd l i > 0
      · simp only [if_pos g]
      · simp only [if_neg g]
  | false =>
    rw [if_neg (show ¬ (false = true) by simp)]
    rcases okB_no o with a | a
    · rw [if_pos a, if_pos trivial]
    · rw [if_neg (show ¬ rd l i < 0 by omega), decide_eq_true (show rd l i > 999999999 from a), if_pos rfl]
theorem fits_eq (k : Nat) (hk : 20 ≤ k) (y mo wk d h mi s : Int) : larderref03_fits.f k y mo wk d h mi s = some (goodB y mo wk d h mi s) := by
  obtain ⟨k, rfl⟩ : ∃ q, k = q + 1 + 2 + 2 + 2 + 2 + 2 + 2 + 2 := ⟨k - 15, by omega⟩
  have hb : ∀ (c : Int) (p : Int), 0 ≤ c → c ≤ 50 → 0 ≤ (if p > 0 then c + 1 else c) ∧ (if p > 0 then c + 1 else c) ≤ c + 1 := by
    intro c p a b; split <;> omega
  unfold larderref03_fits.f
  rw [fits_step _ _ _ _ _ _ _ _ _ _ _ rfl (by omega) (by omega) (by omega) (by omega)]
  have e0 : rd [y, mo, wk, d, h, mi, s] 0 = y := rfl
  have e1 : rd [y, mo, wk, d, h, mi, s] (0 + 1) = mo := rfl
  have e2 : rd [y, mo, wk, d, h, mi, s] (0 + 1 + 1) = wk := rfl
  have e3 : rd [y, mo, wk, d, h, mi, s] (0 + 1 + 1 + 1) = d := rfl
  have e4 : rd [y, mo, wk, d, h, mi, s] (0 + 1 + 1 + 1 + 1) = h := rfl
  have e5 : rd [y, mo, wk, d, h, mi, s] (0 + 1 + 1 + 1 + 1 + 1) = mi := rfl
  have e6 : rd [y, mo, wk, d, h, mi, s] (0 + 1 + 1 + 1 + 1 + 1 + 1) = s := rfl
  have hS : pS y mo d h mi s 6 = y + mo + d + h + mi + s := by simp [pS, pN]
  unfold goodB allOk
  rw [hS, e0]
  cases o0 : okB y with
  | false => simp
  | true =>
    rw [if_pos rfl, if_neg (by omega)]
    have q0 := hb 0 y (by omega) (by omega)
    generalize hc0 : (if y > 0 then (0 : Int) + 1 else 0) = c0 at *
    rw [fits_step _ _ _ _ _ _ _ _ _ _ _ rfl (by omega) (by omega) (by omega) (by omega), e1]
    cases o1 : okB mo with
    | false => simp
    | true =>
      rw [if_pos rfl, if_neg (by omega)]
      have q1 := hb c0 mo (by omega) (by omega)
      generalize hc1 : (if mo > 0 then c0 + 1 else c0) = c1 at *
      rw [fits_step _ _ _ _ _ _ _ _ _ _ _ rfl (by omega) (by omega) (by omega) (by omega), e2]
      cases o2 : okB wk with
      | false => simp
      | true =>
        rw [if_pos rfl, if_pos (by omega)]
        rw [fits_step _ _ _ _ _ _ _ _ _ _ _ rfl (by omega) (by omega) (by omega) (by omega), e3]
        cases o3 : okB d with
        | false => simp
        | true =>
          rw [if_pos rfl, if_neg (by omega)]
          have q3 := hb c1 d (by omega) (by omega)
          generalize hc3 : (if d > 0 then c1 + 1 else c1) = c3 at *
          rw [fits_step _ _ _ _ _ _ _ _ _ _ _ rfl (by omega) (by omega) (by omega) (by omega), e4]
          cases o4 : okB h with
          | false => simp
          | true =>
            rw [if_pos rfl, if_neg (by omega)]
            have q4 := hb c3 h (by omega) (by omega)
            generalize hc4 : (if h > 0 then c3 + 1 else c3) = c4 at *
            rw [fits_step _ _ _ _ _ _ _ _ _ _ _ rfl (by omega) (by omega) (by omega) (by omega), e5]
            cases o5 : okB mi with
            | false => simp
            | true =>
              rw [if_pos rfl, if_neg (by omega)]
              have q5 := hb c4 mi (by omega) (by omega)
              generalize hc5 : (if mi > 0 then c4 + 1 else c4) = c5 at *
              rw [fits_step _ _ _ _ _ _ _ _ _ _ _ rfl (by omega) (by omega) (by omega) (by omega), e6]
              cases o6 : okB s with
              | false => simp
              | true =>
                rw [if_pos rfl, if_neg (by omega)]
                have q6 := hb c5 s (by omega) (by omega)
                generalize hc6 : (if s > 0 then c5 + 1 else c5) = c6 at *
                simp only [larderref03_fits.l0]
                rw [if_neg (by omega)]
                have b0 := okB_out o0; have b1 := okB_out o1; have b2 := okB_out o2; have b3 := okB_out o3; have b4 := okB_out o4; have b5 := okB_out o5; have b6 := okB_out o6
                have key : c6 = 0 ↔ y + mo + d + h + mi + s = 0 := by
                  split at hc0 <;> split at hc1 <;> split at hc3 <;> split at hc4 <;> split at hc5 <;> split at hc6 <;> omega
                by_cases z : wk = 0
                · simp [z]
                · rw [if_neg z]
                  by_cases w : c6 = 0
                  · simp [w, key.1 w, z]
                  · have : ¬ y + mo + d + h + mi + s = 0 := fun q => w (key.2 q)
                    simp [w, this, z]
end Go.Proofs.YtofafljfabgpmaaDoor.CalP
