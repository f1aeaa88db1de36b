/- SheetStuck, walked (printed by gen_shtst.py). -/
import Derived.Test.YtinjlpodcabfaaaDoorShtSk
set_option linter.unusedVariables false
set_option linter.unusedSimpArgs false
namespace Go.Proofs.YtinjlpodcabfaaaDoor.Sht
open Go Go.RowKit Go.Joins
attribute [local go_sem ↓] Go.wp_at_zero Go.wp_at_succ
variable {A : Nat → Addr}
theorem errAt_flt {W : World} {B b g l c e : Nat} (h : ErrAt W B A b (.iface 65 (PT g)) (some (l, c, e))) : Flt A W g l c e := by
  obtain ⟨⟨_, g', _, hv, hg⟩, _⟩ := h
  have : g = g' := by simpa [PT] using hv
  subst this
  exact hg
set_option maxHeartbeats 16000000 in
set_option maxRecDepth 100000 in
theorem sheetStuck_calls (w : World) (hS : SG w A) (hE : ET w) (tb : Nat → Int) (hT : Itoa.Tb w tb) (t : ByteArray) (ht : t.size ≤ 4611686018427387904) (x : Option Addr) (cap : Nat) (ms : List ByteArray) (hms : ∀ m ∈ ms, m.size ≤ 4611686018427387904) (hlen : ms.length ≤ 9223372036854775807)
    (hx : ∀ i (h : i < ms.length), ∃ ad : Addr, x = some ad ∧ w.cell? (ad.add i) = some (.string ms[i])) :
    Calls Tryd.prog 4 #[.string t, .slice x ms.length cap] w fun e w' => e = .returned (.bool true) ∧ Below w.heap.size w w' := by
  have HN := Lib.hid (new_r w A)
  have HX := Lib.hid hx
  have HM := Lib.hid hms
  have HS := Lib.hid hS
  have HE := Lib.hid hE
  have HI := Lib.hid (it_any hT)
  have kc := fun (w : World) (t : ByteArray) => Lib.run_convert_string_bytes (P := Tryd.prog) w 9 33 5 t Tryd.underlying9 Tryd.underlying33 Tryd.underlying5
  have mF := methodFault
  have hlive := live_feed t.data.toList RS.new (fun _ => inv_new)
  have hft : ∀ l c e, (RS.new.feed t.data.toList).fault = some (l, c, e) → l ≤ 262145 ∧ c ≤ 262144 ∧ coded e ∧ e ≠ 1 ∧ e ≠ 9 := fun l c e h => fed_fault h
  obtain ⟨s1, hs1⟩ : ∃ s1, s1 = RS.new.feed t.data.toList := ⟨_, rfl⟩
  rw [← hs1] at hlive hft
  have HLv := Lib.hid hlive
  have HFt := Lib.hid hft
  have HFD : Hid (∀ w1, R A w w1 w.heap.size RS.new → Calls Tryd.prog 10 #[PT w.heap.size, .slice (some ⟨w1.heap.size, 0, none⟩) t.size (grownCap w1 t.size 0 5)] (Lib.bytesWorld w1 5 t) fun e w' => Fed A w w1 w.heap.size s1 e w') :=
    Lib.hid fun w1 hR => by rw [hs1]; exact feed_text hS.sf hE hR (fun _ => inv_new) (by intro l c e; cases e) t ht
  clear hx hms hS hE hT hlive hft hs1
  cases hf : s1.fault with
  | none =>
    have HFn := Lib.hid hf
    clear hf
    go_enter Tryd.func4, Tryd.ntmps4
    go_wp2_with (first
      | (go_at_call 9; (with_reducible refine HN.out.mono ?_); rintro e w1 ⟨rfl, hR1, hB1⟩; have HD := Lib.hid (HFD.out w1 hR1); clear hR1 hB1)
      | (go_at_call 10; (with_reducible refine HD.out.mono ?_); rintro e w2 ⟨vl, ve, rfl, hR2, hT2, hE2, hF2⟩; rw [HFn.out] at hE2; obtain ⟨rfl, _⟩ := hE2; have hv1 : w2.cell? ⟨2, 0, none⟩ = some (errV A 1) := (HS.out.below hR2.base).hv 1 (by omega) (by omega); have hv9 : w2.cell? ⟨3, 0, none⟩ = some (errV A 9) := (HS.out.below hR2.base).hv 9 (by omega) (by omega); have HR2 := Lib.hid hR2; clear hR2 hT2 hF2)
      | (go_at_call 8; (with_reducible refine (is_nil _ _).mono ?_); rintro e w3 ⟨rfl, rfl⟩))
    have HCl := Lib.hid (open_close HS.out.sf HE.out HR2.out (live_told HLv.out))
    refine wp_loop_rounds 1 ?_
    rw [rounds_succ]
    go_wp2_with (go_at_call 12; (with_reducible refine HCl.out.mono ?_); rintro ev w5 ⟨vl5, ve5, rfl, hD⟩; have HD := Lib.hid hD; clear hD)
    all_goals
      go_loopw [11, 12, 13] (fun lv fv i wr => ∃ k : Nat, k ≤ ms.length ∧ i = .int .i64 (k : Int) ∧ Hid (∃ sd, R A w wr w.heap.size sd ∧ sd.fault = some (0, 0, 9) ∧ sd.rows = [])) (fun _ _ i _ => (ms.length - intOf i).toNat)
      case atStart => exact ⟨0, by omega, rfl, Lib.hid HD.out⟩
      case round =>
        obtain ⟨k, hk, rfl, HDk⟩ := hrel
        by_cases hkn : k < ms.length
        · have e1 : decide ((k : Int) < (ms.length : Int)) = true := by simp; omega
          obtain ⟨ad, rfl, hcx⟩ := HX.out k hkn
          obtain ⟨sd, hR0, hd0, hr0⟩ := HDk.out
          have hcx' := (hR0.base.cell (World.block_lt_of_cell? _ _ hcx)).trans hcx
          have k0 : (0 : Int) ≤ (k : Int) := Int.natCast_nonneg _
          have k1 : (k : Int) < (ms.length : Int) := by omega
          have HFd := Lib.hid (stuck_feed HS.out.sf HE.out hR0 hd0 ms[k])
          have HD0 := Lib.hid (And.intro hd0 hr0)
          clear hR0 hd0 hr0 hcx
          go_wp2_with (first
            | (go_at_call 10; (with_reducible refine HFd.out.mono ?_); rintro ev w1 ⟨g1, rfl, hg1, hR1⟩; have hv9 : w1.cell? ⟨3, 0, none⟩ = some (errV A 9) := (HS.out.below hR1.base).hv 9 (by omega) (by omega); have HK1 := Lib.hid (known_done HS.out HE.out hR1.base hg1); have HR1 := Lib.hid hR1; clear hg1 hR1)
            | (go_at_call 13; (with_reducible refine HK1.out.mono ?_); rintro ev w2 ⟨rfl, hb2⟩; have hR2 := HR1.out.below hb2; have HC2 := Lib.hid (stuck_close HS.out.sf HE.out hR2 HD0.out.1 HD0.out.2); clear hR2 hb2)
            | (go_at_call 12; (with_reducible refine HC2.out.mono ?_); rintro ev w3 ⟨g3, x3, c3, rfl, hg3, _, hD3⟩; have hb3 : Below w.heap.size w w3 := by { obtain ⟨_, h, _⟩ := hD3; exact h.base }; have hv9' : w3.cell? ⟨3, 0, none⟩ = some (errV A 9) := (HS.out.below hb3).hv 9 (by omega) (by omega); have HK3 := Lib.hid (known_done HS.out HE.out hb3 hg3); have HD3 := Lib.hid hD3; clear hg3 hD3 hb3)
            | (go_at_call 13; (with_reducible refine HK3.out.mono ?_); rintro ev w4 ⟨rfl, hb4⟩; have HB4 := Lib.hid hb4; clear hb4))
          go_roundw
          case rel => exact ⟨k + 1, by omega, by go_num, Lib.hid (by obtain ⟨sd, h1, h2, h3⟩ := HD3.out; exact ⟨sd, h1.below HB4.out, h2, h3⟩)⟩
          case measure => simp [intOf]; omega
        · have e1 : decide ((k : Int) < (ms.length : Int)) = false := by simp; omega
          go_wp2
          go_ret
          obtain ⟨sd, h1, _⟩ := HDk.out
          exact ⟨rfl, h1.base⟩
  | some f =>
    obtain ⟨fl, fc, fe⟩ := f
    obtain ⟨q1, q2, q3, q4, q5⟩ := HFt.out fl fc fe hf
    have q6 : 1 ≤ fe ∧ fe ≤ 20 := by unfold coded at q3; omega
    obtain ⟨tx, htx, htz⟩ := HS.out.ht fe q6.1 q6.2
    have HFs := Lib.hid hf
    have HQ := Lib.hid (show fl ≤ 499999 ∧ fc ≤ 499999 ∧ 1 ≤ fe ∧ fe ≤ 20 ∧ fe ≠ 1 ∧ fe ≠ 9 from ⟨by omega, by omega, q6.1, q6.2, q4, q5⟩)
    have HTx := Lib.hid htx
    have HTz := Lib.hid htz
    have HN1 : Hid (decide (fe = 1) = false) := Lib.hid (decide_eq_false q4)
    have HN9 : Hid (decide (fe = 9) = false) := Lib.hid (decide_eq_false q5)
    clear hf q1 q2 q3 q4 q5 q6 htx htz
    go_enter Tryd.func4, Tryd.ntmps4
    go_wp2_with (first
      | (go_at_call 9; (with_reducible refine HN.out.mono ?_); rintro e w1 ⟨rfl, hR1, hB1⟩; have HD := Lib.hid (HFD.out w1 hR1); clear hR1 hB1)
      | (go_at_call 10; (with_reducible refine HD.out.mono ?_); rintro e w2 ⟨vl, ve, rfl, hR2, hT2, hE2, hF2⟩; rw [HFs.out] at hE2; have hE2' := hE2; obtain ⟨⟨_, g0, _, rfl, _⟩, _⟩ := hE2; have HE0 := Lib.hid hE2'; have hv1 : w2.cell? ⟨2, 0, none⟩ = some (errV A 1) := (HS.out.below hR2.base).hv 1 (by omega) (by omega); have hv9 : w2.cell? ⟨3, 0, none⟩ = some (errV A 9) := (HS.out.below hR2.base).hv 9 (by omega) (by omega); have HI1 := Lib.hid (is_code A g0 fe 1 _ _ w2 (HS.out.below hR2.base) HQ.out.2.2.1 HQ.out.2.2.2.1 (by omega) (by omega) (errAt_flt hE2')); have HI9 := Lib.hid (is_code A g0 fe 9 _ _ w2 (HS.out.below hR2.base) HQ.out.2.2.1 HQ.out.2.2.2.1 (by omega) (by omega) (errAt_flt hE2')); rw [HN1.out] at HI1; rw [HN9.out] at HI9; have HR2 := Lib.hid hR2; clear hR2 hT2 hF2 hE2')
      | (go_at_call 8; (with_reducible refine HI1.out.mono ?_); rintro e w3 ⟨rfl, rfl⟩)
      | (go_at_call 8; (with_reducible refine HI9.out.mono ?_); rintro e w3 ⟨rfl, rfl⟩))
    clear hv1 hv9
    obtain ⟨s2, hs2⟩ : ∃ s2, s2 = { s1 with rows := [] } := ⟨_, rfl⟩
    have HS2 : Hid (s2.fault = some (fl, fc, fe) ∧ s2.rows = []) := Lib.hid (by rw [hs2]; exact ⟨HFs.out, rfl⟩)
    have hR2' := HR2.out
    rw [← hs2] at hR2'
    have HR2' := Lib.hid hR2'
    clear hR2' hs2 HR2
    generalize hBB : w1.heap.size = B0 at HE0
    clear hBB
    go_loopw [8, 9, 10] (fun i lv fv wr => ∃ k : Nat, k ≤ ms.length ∧ i = .int .i64 (k : Int) ∧ Hid (R A w wr w.heap.size s2) ∧ Hid (ErrAt wr B0 A w.heap.size (.iface 65 (PT g0)) (some (fl, fc, fe)))) (fun i _ _ _ => (ms.length - intOf i).toNat)
    case atStart => exact ⟨0, by omega, rfl, HR2', HE0⟩
    case round =>
      obtain ⟨k, hk, rfl, HRk, HEk⟩ := hrel
      by_cases hkn : k < ms.length
      · obtain ⟨ad, rfl, hcx⟩ := HX.out k hkn
        have hcx' := (HRk.out.base.cell (World.block_lt_of_cell? _ _ hcx)).trans hcx
        have k0 : (0 : Int) ≤ (k : Int) := Int.natCast_nonneg _
        have k1 : (k : Int) < (ms.length : Int) := by omega
        have HFd := Lib.hid (again_feed HS.out.sf HE.out HRk.out HS2.out.1 HQ.out.2.2.2.2.2 HS2.out.2 ms[k] (HM.out _ (List.getElem_mem hkn)))
        clear hcx
        go_wp2_with (first
          | (go_at_call 10; (with_reducible refine HFd.out.mono ?_); rintro ev w3 ⟨g1, x1, c1, rfl, hg1, hf1, hR1⟩; have HE3 := Lib.hid (HEk.out.fr hf1); have HG3 := Lib.hid hg1; have HR3 := Lib.hid hR1; have HT3 := Lib.hid (err_text HS.out HI.out hR1.base HTx.out HTz.out HQ.out.1 HQ.out.2.1 hg1); clear hg1 hf1 hR1)
          | (go_at_call 31; (with_reducible refine HT3.out.mono ?_); rintro ev w4 ⟨rfl, hb4⟩; have HR4 := Lib.hid (HR3.out.below hb4); have HE4 := Lib.hid (HE3.out.fr (Fr.of_below HR3.out.lt hb4)); have HG4 := Lib.hid (HG3.out.below hb4); have HT4 := Lib.hid (err_text HS.out HI.out HR4.out.base HTx.out HTz.out HQ.out.1 HQ.out.2.1 (errAt_flt HE4.out)); clear hb4)
          | (go_at_call 31; (with_reducible refine HT4.out.mono ?_); rintro ev w5 ⟨rfl, hb5⟩; have HR5 := Lib.hid (HR4.out.below hb5); have HE5 := Lib.hid (HE4.out.fr (Fr.of_below HR4.out.lt hb5)); have HK5 := Lib.hid (kinds_r A g1 fe _ _ w5 (HS.out.below HR5.out.base) HQ.out.2.2.1 HQ.out.2.2.2.1 (HG4.out.below hb5)); clear hb5)
          | (go_at_call 11; (with_reducible refine HK5.out.mono ?_); rintro ev w6 ⟨rfl, hb6⟩; have HB6 := Lib.hid hb6; clear hb6))
        go_roundw
        case rel => exact ⟨k + 1, by omega, by go_num, Lib.hid (HR5.out.below HB6.out), Lib.hid (HE5.out.fr (Fr.of_below HR5.out.lt HB6.out))⟩
        case measure => simp [intOf]; omega
      · have HCl := Lib.hid (stuck_close HS.out.sf HE.out HRk.out HS2.out.1 HS2.out.2)
        go_wp2_with (first
          | (go_at_call 12; (with_reducible refine HCl.out.mono ?_); rintro ev w3 ⟨g3, x3, c3, rfl, hg3, hf3, hD3⟩; have HE3 := Lib.hid (HEk.out.fr hf3); have HD3 := Lib.hid hD3; have hb3 : Below w.heap.size w w3 := (by obtain ⟨_, h, _⟩ := hD3; exact h.base); have HT3 := Lib.hid (err_text HS.out HI.out hb3 HTx.out HTz.out HQ.out.1 HQ.out.2.1 hg3); clear hg3 hf3 hD3 hb3)
          | (go_at_call 31; (with_reducible refine HT3.out.mono ?_); rintro ev w4 ⟨rfl, hb4⟩; obtain ⟨sd4, hR4, hd4, hr4⟩ := HD3.out; have HD4 : Hid (∃ sd, R A w w4 w.heap.size sd ∧ sd.fault = some (0, 0, 9) ∧ sd.rows = []) := Lib.hid ⟨sd4, hR4.below hb4, hd4, hr4⟩; have HE4 := Lib.hid (HE3.out.fr (Fr.of_below hR4.lt hb4)); have HT4 := Lib.hid (err_text HS.out HI.out (hR4.below hb4).base HTx.out HTz.out HQ.out.1 HQ.out.2.1 (errAt_flt HE4.out)); clear hb4 hR4 hd4 hr4)
          | (go_at_call 31; (with_reducible refine HT4.out.mono ?_); rintro ev w5 ⟨rfl, hb5⟩; obtain ⟨sd5, hR5, hd5, hr5⟩ := HD4.out; have HD : Hid (∃ sd, R A w w5 w.heap.size sd ∧ sd.fault = some (0, 0, 9) ∧ sd.rows = []) := Lib.hid ⟨sd5, hR5.below hb5, hd5, hr5⟩; clear hb5 hR5 hd5 hr5))
        go_loopw [11, 12, 13] (fun lv fv i wr => ∃ k : Nat, k ≤ ms.length ∧ i = .int .i64 (k : Int) ∧ Hid (∃ sd, R A w wr w.heap.size sd ∧ sd.fault = some (0, 0, 9) ∧ sd.rows = [])) (fun _ _ i _ => (ms.length - intOf i).toNat)
        case atStart => exact ⟨0, by omega, rfl, Lib.hid HD.out⟩
        case round =>
          obtain ⟨k, hk, rfl, HDk⟩ := hrel
          by_cases hkn : k < ms.length
          · have e1 : decide ((k : Int) < (ms.length : Int)) = true := by simp; omega
            obtain ⟨ad, rfl, hcx⟩ := HX.out k hkn
            obtain ⟨sd, hR0, hd0, hr0⟩ := HDk.out
            have hcx' := (hR0.base.cell (World.block_lt_of_cell? _ _ hcx)).trans hcx
            have k0 : (0 : Int) ≤ (k : Int) := Int.natCast_nonneg _
            have k1 : (k : Int) < (ms.length : Int) := by omega
            have HFd := Lib.hid (stuck_feed HS.out.sf HE.out hR0 hd0 ms[k])
            have HD0 := Lib.hid (And.intro hd0 hr0)
            clear hR0 hd0 hr0 hcx
            go_wp2_with (first
              | (go_at_call 10; (with_reducible refine HFd.out.mono ?_); rintro ev w1 ⟨g1, rfl, hg1, hR1⟩; have hv9 : w1.cell? ⟨3, 0, none⟩ = some (errV A 9) := (HS.out.below hR1.base).hv 9 (by omega) (by omega); have HK1 := Lib.hid (known_done HS.out HE.out hR1.base hg1); have HR1 := Lib.hid hR1; clear hg1 hR1)
              | (go_at_call 13; (with_reducible refine HK1.out.mono ?_); rintro ev w2 ⟨rfl, hb2⟩; have hR2 := HR1.out.below hb2; have HC2 := Lib.hid (stuck_close HS.out.sf HE.out hR2 HD0.out.1 HD0.out.2); clear hR2 hb2)
              | (go_at_call 12; (with_reducible refine HC2.out.mono ?_); rintro ev w3 ⟨g3, x3, c3, rfl, hg3, _, hD3⟩; have hb3 : Below w.heap.size w w3 := by { obtain ⟨_, h, _⟩ := hD3; exact h.base }; have hv9' : w3.cell? ⟨3, 0, none⟩ = some (errV A 9) := (HS.out.below hb3).hv 9 (by omega) (by omega); have HK3 := Lib.hid (known_done HS.out HE.out hb3 hg3); have HD3 := Lib.hid hD3; clear hg3 hD3 hb3)
              | (go_at_call 13; (with_reducible refine HK3.out.mono ?_); rintro ev w4 ⟨rfl, hb4⟩; have HB4 := Lib.hid hb4; clear hb4))
            go_roundw
            case rel => exact ⟨k + 1, by omega, by go_num, Lib.hid (by obtain ⟨sd, h1, h2, h3⟩ := HD3.out; exact ⟨sd, h1.below HB4.out, h2, h3⟩)⟩
            case measure => simp [intOf]; omega
          · have e1 : decide ((k : Int) < (ms.length : Int)) = false := by simp; omega
            go_wp2
            go_ret
            obtain ⟨sd, h1, _⟩ := HDk.out
            exact ⟨rfl, h1.base⟩
end Go.Proofs.YtinjlpodcabfaaaDoor.Sht
