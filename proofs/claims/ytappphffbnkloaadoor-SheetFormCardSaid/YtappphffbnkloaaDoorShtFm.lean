/- SheetForm, walked. -/
import Derived.Test.YtappphffbnkloaaDoorShtLv
import Derived.Test.YtappphffbnkloaaDoorShtPu
set_option linter.unusedVariables false
set_option linter.unusedSimpArgs false
namespace Go.Proofs.YtappphffbnkloaaDoor.Sht
open Go Go.RowKit
attribute [local go_sem ↓] Go.wp_at_zero Go.wp_at_succ
theorem parse_none {l : List UInt8} {f : Nat × Nat × Nat} (h : (parseO l).2 = some f) : parseO l = ([], some f) := by
  unfold parseO at h ⊢
  split
  · rename_i h0
    rw [if_pos h0] at h
    exact Prod.ext rfl h
  · rename_i h0
    rw [if_neg h0] at h
    split
    · rename_i h1
      rw [if_pos h1] at h
      exact Prod.ext rfl h
    · rename_i h1
      rw [if_neg h1] at h
      cases h
theorem good_nil {w : World} {B : Nat} {v : Value} (h : GoodRows B w v []) : ∃ a c, v = .slice a 0 c := by
  obtain ⟨x, cap, h1, _⟩ := rowsIn_good h
  exact ⟨x, cap, h1⟩
theorem good_slice {w : World} {B : Nat} {v : Value} {rs : Rows} (h : GoodRows B w v rs) : ∃ a c, v = .slice a rs.length c := by
  obtain ⟨x, cap, h1, _⟩ := rowsIn_good h
  exact ⟨x, cap, h1⟩
theorem known_zero {A : Nat → Addr} (g : Nat) (e : Nat) (w : World) (hS : SG w A) (hE : ET w) (h1 : 1 ≤ e) (h2 : e ≤ 20) (hg : w.heap[g]? = some (.cells #[I 0, I 0, errV A e] 49 (0, 0))) :
    Calls Tryd.prog 9 #[.iface 34 (PT g), errV A e, .int .i64 0, .int .i64 0] w fun ev w' => ev = .returned (.bool true) ∧ Below w.heap.size w w' := known_r g 0 0 e w hS hE h1 h2 hg
set_option maxHeartbeats 8000000 in
set_option maxRecDepth 100000 in
theorem sheetForm_calls {A : Nat → Addr} (w : World) (hS : SG w A) (hE : ET w) (hM : ML w) (t : ByteArray) (ht : t.size ≤ 4611686018427387904) :
    Calls Tryd.prog 4 #[.string t] w fun e w' => e = .returned (.bool true) ∧ Below w.heap.size w w' := by
  have HLv := Lib.hid (lives_r w hS.sf hE hM)
  have HP : Hid (∀ (t : ByteArray) w1, Below w.heap.size w w1 → t.size ≤ 4611686018427387904 → Calls Tryd.prog 6 #[.string t] w1 (Parsed A w1 t.data.toList)) := Lib.hid fun t w1 k ht => parse_r w1 (hS.sf.below k) (hE.below k) t ht
  have HPr : Hid (∀ (rs : Rows) v w1, Below w.heap.size w w1 → RowsIn w1 v rs → Calls Tryd.prog 5 #[v] w1 (Prt A w1 (printO rs))) := Lib.hid fun rs v w1 k h => print_r A rs v w1 (hS.sf.below k) h (hM.below k hM.lt)
  have HS := Lib.hid hS
  have HE := Lib.hid hE
  clear hS hE hM
  have hlen : t.data.toList.length = t.size := by rw [Array.length_toList]; rfl
  obtain ⟨⟨rs, f⟩, ho⟩ : ∃ o, o = parseO t.data.toList := ⟨_, rfl⟩
  have HO := Lib.hid ho.symm
  cases f with
  | some f =>
    have hn := parse_none (l := t.data.toList) (f := f) (by rw [← ho])
    rw [← ho] at hn
    obtain ⟨rfl, _⟩ := Prod.mk.inj hn
    obtain ⟨l, c, e0⟩ := f
    clear ho hn
    go_enter Tryd.func4, Tryd.ntmps4
    go_wp2_with (first
      | (go_at_call 8; (with_reducible refine HLv.out.mono ?_); rintro e w1 ⟨rfl, hb⟩; have HB1 := Lib.hid hb; clear hb)
      | (go_at_call 6; (with_reducible refine (HP.out t _ HB1.out ht).mono ?_); rintro e w2 ⟨vl, ve, rfl, hg, hf, hb⟩; rw [HO.out] at hg hf; obtain ⟨he, g, _, rfl, hh⟩ := hf; obtain ⟨x, c2, rfl⟩ := good_nil hg; have HB2 := Lib.hid (HB1.out.trans (hb.mono HB1.out.size)); clear hg hb he hh))
    go_ret
    exact ⟨rfl, HB2.out⟩
  | none =>
    obtain ⟨q1, q2⟩ := parse_good t.data.toList rs ho.symm
    rw [hlen] at q2
    obtain ⟨tx, htx⟩ : ∃ tx, tx = textO rs := ⟨_, rfl⟩
    rw [← htx] at q2
    by_cases hov : 262144 < tx.length
    · have hpr : printO rs = ([], some (0, 0, 20)) := print_over rs q1 rs.length (by rw [List.take_length, ← htx]; exact hov)
      have HPO := Lib.hid hpr
      have t1 : decide ((t.size : Int) > 262142) = true := by simp; omega
      clear ho hlen hpr q1 htx
      go_enter Tryd.func4, Tryd.ntmps4
      go_wp2_with (first
        | (go_at_call 8; (with_reducible refine HLv.out.mono ?_); rintro e w1 ⟨rfl, hb⟩; have HB1 := Lib.hid hb; clear hb)
        | (go_at_call 6; (with_reducible refine (HP.out t _ HB1.out ht).mono ?_); rintro e w2 ⟨vl, ve, rfl, hg, hf, hb⟩; rw [HO.out] at hg hf; obtain rfl : ve = .nilIface := hf; have HB2 := Lib.hid (HB1.out.trans (hb.mono HB1.out.size)); have HPr2 := Lib.hid (HPr.out rs vl w2 HB2.out (rowsIn_good hg)); clear hg hb)
        | (go_at_call 5; (with_reducible refine HPr2.out.mono ?_); rintro e w3 ⟨ve3, rfl, hf3, hb3⟩; rw [HPO.out] at hf3; rw [HPO.out]; obtain ⟨he3, g3, hB3, rfl, hh3⟩ := hf3; have HB3 := Lib.hid (HB2.out.trans (hb3.mono HB2.out.size)); have e20 : w3.cell? ⟨0, 0, none⟩ = some (errV A 20) := (HS.out.below HB3.out).hv 20 (by omega) (by omega); have HK := Lib.hid (known_zero g3 20 w3 (HS.out.below HB3.out) (HE.out.below HB3.out) (by omega) (by omega) hh3); clear hb3 hh3 he3)
        | (go_at_call 9; (with_reducible refine HK.out.mono ?_); rintro e w4 ⟨rfl, hb4⟩; have HB4 := Lib.hid (HB3.out.trans (hb4.mono HB3.out.size)); clear hb4))
      go_ret
      exact ⟨rfl, HB4.out⟩
    · have hpr : printO rs = (tx, none) := by rw [htx]; exact print_done rs q1 (by rw [← htx]; omega)
      have hps : parseO tx = (rs, none) := back_print rs tx hpr
      have HPO := Lib.hid hpr
      have HPS := Lib.hid hps
      have htl : tx.length ≤ 262144 := by omega
      have t1 : decide ((tx.length : Int) ≤ (t.size : Int) + 2) = true := by simp; omega
      have HT : Hid (∀ w1, Below w.heap.size w w1 → Calls Tryd.prog 6 #[st tx] w1 (Parsed A w1 tx)) := Lib.hid fun w1 k => HP.out ⟨tx.toArray⟩ w1 k (by rw [size_mk]; omega)
      clear ho hlen hpr hps q1 htx hov
      go_enter Tryd.func4, Tryd.ntmps4
      go_wp2_with (first
        | (go_at_call 8; (with_reducible refine HLv.out.mono ?_); rintro e w1 ⟨rfl, hb⟩; have HB1 := Lib.hid hb; clear hb)
        | (go_at_call 6; (with_reducible refine (HP.out t _ HB1.out ht).mono ?_); rintro e w2 ⟨vl, ve, rfl, hg, hf, hb⟩; rw [HO.out] at hg hf; obtain rfl : ve = .nilIface := hf; have HB2 := Lib.hid (HB1.out.trans (hb.mono HB1.out.size)); have HG2 := Lib.hid (rowsIn_good hg); have HPr2 := Lib.hid (HPr.out rs vl w2 HB2.out HG2.out); clear hg hb)
        | (go_at_call 5; (with_reducible refine HPr2.out.mono ?_); rintro e w3 ⟨ve3, rfl, hf3, hb3⟩; rw [HPO.out] at hf3; rw [HPO.out]; obtain rfl : ve3 = .nilIface := hf3; have HB3 := Lib.hid (HB2.out.trans (hb3.mono HB2.out.size)); have HG3 := Lib.hid (HG2.out.below hb3); clear hb3)
        | (go_at_call 6; (with_reducible refine (HT.out _ HB3.out).mono ?_); rintro e w4 ⟨vl4, ve4, rfl, hg, hf, hb⟩; rw [HPS.out] at hg hf; obtain rfl : ve4 = .nilIface := hf; have HB4 := Lib.hid (HB3.out.trans (hb.mono HB3.out.size)); have HG4 := Lib.hid (rowsIn_good hg); have HSm := Lib.hid (same_r2 rs vl vl4 w4 (HG3.out.below hb) HG4.out); clear hg hb)
        | (go_at_call 7; (with_reducible refine HSm.out.mono ?_); rintro e w5 ⟨rfl, hb5⟩; have HB5 := Lib.hid (HB4.out.trans (hb5.mono HB4.out.size)); have HPr5 := Lib.hid (HPr.out rs vl4 w5 HB5.out (HG4.out.below hb5)); clear hb5)
        | (go_at_call 5; (with_reducible refine HPr5.out.mono ?_); rintro e w6 ⟨ve6, rfl, hf6, hb6⟩; rw [HPO.out] at hf6; rw [HPO.out]; obtain rfl : ve6 = .nilIface := hf6; have HB6 := Lib.hid (HB5.out.trans (hb6.mono HB5.out.size)); clear hb6))
      go_ret
      exact ⟨rfl, HB6.out⟩
end Go.Proofs.YtappphffbnkloaaDoor.Sht
