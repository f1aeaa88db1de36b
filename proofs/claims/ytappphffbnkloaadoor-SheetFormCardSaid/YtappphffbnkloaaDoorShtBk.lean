/- SheetBack, walked. -/
import Derived.Test.YtappphffbnkloaaDoorShtQ
import Derived.Test.YtappphffbnkloaaDoorShtPd
import Derived.Test.YtappphffbnkloaaDoorShtSm
set_option linter.unusedVariables false
set_option linter.unusedSimpArgs false
namespace Go.Proofs.YtappphffbnkloaaDoor.Sht
open Go Go.RowKit
attribute [local go_sem ↓] Go.wp_at_zero Go.wp_at_succ
theorem maxLen_le {n : Nat} (h : n ≤ maxLen) : n ≤ 9223372036854775807 := by unfold maxLen at h; exact h
theorem rowIn_own {w : World} {B : Nat} {v : Value} {r : List (List UInt8)} (h : w.ownsRow B 9 1 v r.length (sts r)) : RowIn w v r := by
  rcases h.2 with ⟨rfl, h0⟩ | ⟨g, cap, cur, rfl, _, _, h1, h2, _⟩
  · exact ⟨none, 0, by rw [h0], by omega, fun i hi => absurd hi (by omega)⟩
  · refine ⟨_, cap, rfl, maxLen_le (Nat.le_trans h1 h2), fun i hi => ⟨_, rfl, ?_⟩⟩
    exact h.cells (g := g) rfl i _ (by simp [sts, hi])
theorem rowsAt_get {w : World} {B : Nat} : ∀ {lv : List Value} {rs : Rows}, RowsAt w B lv rs → lv.length = rs.length ∧ ∀ (j : Nat) (hj : j < rs.length), ∃ v, lv[j]? = some v ∧ w.ownsRow B 9 1 v rs[j].length (sts rs[j])
  | [], [], _ => ⟨rfl, fun j h => absurd h (by simp)⟩
  | v :: lv, r :: rs, h => by
    obtain ⟨h1, h2⟩ := rowsAt_get h.2
    refine ⟨by simp [h1], fun j hj => ?_⟩
    cases j with
    | zero => exact ⟨v, rfl, h.1⟩
    | succ j => exact h2 j (by simpa using hj)
  | [], _ :: _, h => h.elim
  | _ :: _, [], h => h.elim
theorem rowsIn_good {w : World} {B : Nat} {v : Value} {rs : Rows} (h : GoodRows B w v rs) : RowsIn w v rs := by
  obtain ⟨lv, h1, h2⟩ := h
  obtain ⟨h3, h4⟩ := rowsAt_get h2
  rcases h1.2 with ⟨rfl, h0⟩ | ⟨g, cap, cur, rfl, _, _, q1, q2, _⟩
  · exact ⟨none, 0, by rw [h0], by omega, fun i hi => absurd hi (by omega)⟩
  · refine ⟨_, cap, rfl, maxLen_le (Nat.le_trans q1 q2), fun i hi => ?_⟩
    obtain ⟨u, hu, hw⟩ := h4 i hi
    exact ⟨_, u, rfl, h1.cells (g := g) rfl i u hu, rowIn_own hw⟩
theorem toList_mk (l : List UInt8) : (⟨l.toArray⟩ : ByteArray).data.toList = l := rfl
theorem size_mk (l : List UInt8) : (⟨l.toArray⟩ : ByteArray).size = l.length := by simp [ByteArray.size]
theorem printO_len {rs : Rows} {t : List UInt8} (h : printO rs = (t, none)) : t.length ≤ 262144 := by
  obtain ⟨_, rfl, h3⟩ := printO_ok rs t h
  exact h3
set_option maxHeartbeats 4000000 in
set_option maxRecDepth 100000 in
theorem sheetBack_calls {A : Nat → Addr} (w : World) (hF : SF w A) (hE : ET w) (hM : ML w) (rs : Rows) (v : Value) (h : RowsIn w v rs) :
    Calls Tryd.prog 3 #[v] w fun e w' => e = .returned (.bool true) ∧ Below w.heap.size w w' := by
  have HP := Lib.hid (print_r A rs v w hF h hM)
  have HF := Lib.hid hF
  have HE := Lib.hid hE
  have HR := Lib.hid h
  clear hF hE hM h
  obtain ⟨⟨t, f⟩, ho⟩ : ∃ o, o = printO rs := ⟨_, rfl⟩
  rw [← ho] at HP
  cases f with
  | some f =>
    have hb := print_bad1 rs (f := f) (by rw [← ho])
    rw [← ho] at hb
    obtain ⟨rfl, _⟩ := Prod.mk.inj hb
    obtain ⟨l, c, e0⟩ := f
    clear ho hb
    go_enter Tryd.func3, Tryd.ntmps3
    go_wp2_with (go_at_call 5; (with_reducible refine HP.out.mono ?_); rintro e w1 ⟨v1, rfl, ⟨he, g, hg, rfl, hh⟩, hb⟩; have HB := Lib.hid hb; clear he hh hb)
    go_ret
    exact ⟨rfl, HB.out⟩
  | none =>
    have hl := printO_len ho.symm
    have hbk := back_print rs t ho.symm
    have HPr : Hid (∀ w1, Below w.heap.size w w1 → Calls Tryd.prog 6 #[st t] w1 (Parsed A w1 t)) := Lib.hid fun w1 k => parse_r w1 (HF.out.below k) (HE.out.below k) ⟨t.toArray⟩ (by rw [size_mk]; omega)
    have HBk := Lib.hid hbk
    clear ho hl hbk
    go_enter Tryd.func3, Tryd.ntmps3
    go_wp2_with (first
      | (go_at_call 5; (with_reducible refine HP.out.mono ?_); rintro e w1 ⟨v1, rfl, hf, hb⟩; obtain rfl : v1 = .nilIface := hf; have HB := Lib.hid hb; clear hb)
      | (go_at_call 6; (with_reducible refine (HPr.out _ HB.out).mono ?_); rintro e w2 ⟨vl, ve, rfl, hg, hf, hb⟩; rw [HBk.out] at hg hf; obtain rfl : ve = .nilIface := hf; have HB2 := Lib.hid (HB.out.trans (hb.mono HB.out.size)); have HS := Lib.hid (same_r2 rs vl v w2 (rowsIn_good hg) (HR.out.below HB2.out)); clear hg hb)
      | (go_at_call 7; (with_reducible refine HS.out.mono ?_); rintro e w3 ⟨rfl, hb⟩; have HB3 := Lib.hid (HB2.out.trans (hb.mono HB2.out.size)); clear hb))
    go_ret
    exact ⟨rfl, HB3.out⟩
end Go.Proofs.YtappphffbnkloaaDoor.Sht
