/- SheetBack, walked. -/
import Derived.Test.YtappphffbnkloaaGreatDoorShtQ
import Derived.Test.YtappphffbnkloaaGreatDoorShtPd
import Derived.Test.YtappphffbnkloaaGreatDoorShtSm
set_option linter.unusedVariables false
set_option linter.unusedSimpArgs false
namespace Go.Proofs.YtappphffbnkloaaGreatDoor.Sht
open Go Go.RowKit
attribute [local go_sem ↓] Go.wp_at_zero Go.wp_at_succ
theorem maxLen_le {n : Nat} (h : n ≤ maxLen) : n ≤ 9223372036854775807 := by unfold maxLen at h; exact h
theorem rowIn_own {w : World} {B : Nat} {v : Value} {r : List (List UInt8)} (h : w.ownsRow B 9 1 v r.length (sts r)) : RowIn w v r := by
  rcases h.2 with ⟨rfl, h0⟩ | ⟨g, cap, cur, rfl, _, _, h1, h2, _⟩
  · exact ⟨none, 0, by rw [h0], by omega, fun i hi => absurd hi (by omega)⟩
  · refine ⟨_, cap, rfl, maxLen_le (Nat.le_trans h1 h2), fun i hi => ⟨_, rfl, ?_⟩⟩
    exact h.cells (g := g) rfl i _ (by simp [sts, hi])
theorem rowsAt_get {w : World} {B : Nat} : ∀ {lv : List Value} {rs : Rows}, RowsAt w B lv rs → lv.length = rs.length ∧ ∀ (j : Nat) (hj : j < rs.length), ∃ v, lv[j]? = some v ∧ w.ownsRow B 9 1 v rs[j].length (sts rs[j])
  | [], [], _ => ⟨rfl, fun j h => absurd h (by simp)⟩
  | v :: lv, r :: rs, h => by
    obtain ⟨h1, h2⟩ := rowsAt_get h.2
    refine ⟨by simp [h1], fun j hj => ?_⟩
    cases j with
    | zero => exact ⟨v, rfl, h.1⟩
    | succ j => exact h2 j (by simpa using hj)
  | [], _ :: _, h => h.elim
  | _ :: _, [], h => h.elim
theorem rowsIn_good {w : World} {B : Nat} {v : Value} {rs : Rows} (h : GoodRows B w v rs) : RowsIn w v rs := by
  obtain ⟨lv, h1, h2⟩ := h
  obtain ⟨h3, h4⟩ := rowsAt_get h2
  rcases h1.2 with ⟨rfl, h0⟩ | ⟨g, cap, cur, rfl, _, _, q1, q2, _⟩
  · exact ⟨none, 0, by rw [h0], by omega, fun i hi => absurd hi (by omega)⟩
  · refine ⟨_, cap, rfl, maxLen_le (Nat.le_trans q1 q2), fun i hi => ?_⟩
    obtain ⟨u, hu, hw⟩ := h4 i hi
    exact ⟨_, u, rfl, h1.cells (g := g) rfl i u hu, rowIn_own hw⟩
theorem toList_mk (l : List UInt8) : (⟨l.toArray⟩ : ByteArray).data.toList = l := rfl
theorem size_mk (l : List UInt8) : (⟨l.toArray⟩ : ByteArray).size = l.length := by simp [ByteArray.size]
theorem printO_len {rs : Rows} {t : List UInt8} (h : printO rs = (t, none)) : t.length ≤ 262144 := by
  obtain ⟨_, rfl, h3⟩ := printO_ok rs t h
  exact h3
end Go.Proofs.YtappphffbnkloaaGreatDoor.Sht
