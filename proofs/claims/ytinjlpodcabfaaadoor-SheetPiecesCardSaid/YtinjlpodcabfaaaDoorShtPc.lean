/- SheetPieces, walked. -/
import Derived.Test.YtinjlpodcabfaaaDoorShtPj
import Derived.Test.YtinjlpodcabfaaaDoorShtSt
import Derived.Test.YtinjlpodcabfaaaDoorShtRd
set_option linter.unusedVariables false
set_option linter.unusedSimpArgs false
namespace Go.Proofs.YtinjlpodcabfaaaDoor.Sht
open Go Go.RowKit Go.Joins Go.Proofs.YtinjlpodcabfaaaDoorW.PrintWords Go.Proofs.YtinjlpodcabfaaaDoor.GS
attribute [local go_sem ↓] Go.wp_at_zero Go.wp_at_succ
variable {A : Nat → Addr}
set_option maxHeartbeats 16000000 in
set_option maxRecDepth 100000 in
theorem sheetPieces_calls (w : World) (hS : SG w A) (hE : ET w) (tb : Nat → Int) (hT : Itoa.Tb w tb) (t : ByteArray) (ht : t.size ≤ 140737488355328) (x : Option Addr) (cap : Nat) (zs : List Int) (hlen : zs.length ≤ 4611686018427387904)
    (hx : ∀ i (h : i < zs.length), ∃ ad : Addr, x = some ad ∧ w.cell? (ad.add i) = some (.int .i64 zs[i])) :
    Calls Tryd.prog 6 #[.string t, .slice x zs.length cap] w fun e w' => e = .returned (.bool true) ∧ Below w.heap.size w w' := by
  have HP := Lib.hid (parse_r w hS.sf hE t (by omega))
  have HX := Lib.hid hx
  have HS := Lib.hid hS
  have HE := Lib.hid hE
  have HI := Lib.hid (it_any hT)
  have kc := fun (w : World) (t : ByteArray) => Lib.run_convert_string_bytes (P := Tryd.prog) w 9 33 5 t Tryd.underlying9 Tryd.underlying33 Tryd.underlying5
  have mF := methodFault
  obtain ⟨i0, hi, hz0, hz1, hz2⟩ := info_parts info28
  clear hx hS hE hT
  go_enter Tryd.func6, Tryd.ntmps6
  go_wp2_with (first
    | (go_at_call 7; (with_reducible refine HP.out.mono ?_); rintro e w1 ⟨vp, vb, rfl, hg, hf, hb1⟩; have HG := Lib.hid hg; have HFb := Lib.hid hf; have HB1 := Lib.hid hb1; clear hg hf hb1)
    | (go_at_call 9; (with_reducible refine (new_r w1 A).mono ?_); rintro e w2 ⟨rfl, hR2, hB2⟩; have HR2 := Lib.hid hR2; clear hR2 hB2))
  have HS1 := Lib.hid (HS.out.below HB1.out)
  have HE1 := Lib.hid (HE.out.below HB1.out)
  go_loopw [8, 9, 10, 11, 12, 13] (fun gv ev fv iv qv lv wr => ∃ k p : Nat, k ≤ zs.length + 1 ∧ p ≤ t.size ∧ (k = zs.length + 1 → p = t.size) ∧ iv = .int .i64 (k : Int) ∧ fv = .int .i64 (p : Int) ∧ Hid (R A w1 wr w1.heap.size (RS.new.feed ((L8 t).take p)).bare) ∧ Hid (Got w1 wr w1.heap.size gv (RS.new.feed ((L8 t).take p)).rows) ∧ Hid (∃ B, ErrAt wr B A w1.heap.size ev (RS.new.feed ((L8 t).take p)).fault)) (fun _ _ _ i _ _ _ => (zs.length + 1 - intOf i).toNat)
  case atStart =>
    refine ⟨0, 0, by omega, by omega, by omega, rfl, rfl, Lib.hid HR2.out, Lib.hid got_nil, Lib.hid ⟨0, rfl, fun j hj => by simp [fb] at hj⟩⟩
  case round =>
    obtain ⟨k, p, hk, hp, hkp, rfl, rfl, HRk, HGk, HEk⟩ := hrel
    cases hf : (RS.new.feed ((L8 t).take p)).fault with
    | some f =>
      obtain ⟨fl, fc, fe⟩ := f
      obtain ⟨q1, q2, q3, q4, q5⟩ := fed_fault hf
      have q6 : 1 ≤ fe ∧ fe ≤ 20 := by unfold coded at q3; omega
      obtain ⟨tx, htx, htz⟩ := HS1.out.ht fe q6.1 q6.2
      have HQ := Lib.hid (show fl ≤ 499999 ∧ fc ≤ 499999 ∧ 1 ≤ fe ∧ fe ≤ 20 from ⟨by omega, by omega, q6.1, q6.2⟩)
      have HTx := Lib.hid htx
      have HTz := Lib.hid htz
      have hpo : (parseO t.data.toList).2 = some (fl, fc, fe) := by
        have e : RS.new.feed (L8 t) = RS.new.feed ((L8 t).take p) := by
          conv => lhs; rw [← List.take_append_drop p (L8 t), feed_app, feed_stop (by rw [hf]; simp)]
        unfold parseO
        rw [show t.data.toList = L8 t from rfl, e, if_pos (by rw [hf]; simp)]
        exact hf
      have hvb := HFb.out
      rw [hpo] at hvb
      obtain ⟨_, gb, _, rfl, hgb⟩ := hvb
      have HGb := Lib.hid (show Flt A w1 gb fl fc fe from hgb)
      obtain ⟨B, hev⟩ := HEk.out
      rw [hf] at hev
      have hev' := hev
      obtain ⟨⟨_, g0, _, rfl, _⟩, _⟩ := hev
      have HE0 := Lib.hid hev'
      have hcl := close_r HS1.out.sf HE1.out HRk.out (fun e => by
        have e' : (RS.new.feed ((L8 t).take p)).fault = none := e
        rw [hf] at e'; cases e')
      have hfin : (RS.new.feed ((L8 t).take p)).bare.fin = (RS.new.feed ((L8 t).take p)).bare := by unfold RS.fin; rw [if_neg (by show ¬ (RS.new.feed ((L8 t).take p)).fault = none; rw [hf]; simp)]
      rw [hfin] at hcl
      have HCl := Lib.hid hcl
      have HFs := Lib.hid hf
      have HI1 := Lib.hid (HI.out.below HB1.out)
      have n1 := new_rows_le ((L8 t).take p)
      clear hf q1 q2 q3 q4 q5 q6 htx htz hpo hgb hev' hcl hfin
      go_wp2_with (first
        | (go_at_call 12; (with_reducible refine HCl.out.mono ?_); rintro ev w3 ⟨vl, ve, rfl, hR3, hT3, hE3, hF3⟩; have hE3 : ErrAt w3 wr.heap.size A w1.heap.size ve (RS.new.feed ((L8 t).take p)).fault := hE3; rw [HFs.out] at hE3; have hE3' := hE3; obtain ⟨⟨_, g3, _, rfl, _⟩, _⟩ := hE3; obtain ⟨x3, c3, rfl⟩ := told_none hT3; have HR3 := Lib.hid hR3; have HG3 := Lib.hid (HGk.out.fr hF3); have HL3 : Hid (Got w1 w3 w1.heap.size (.slice x3 0 c3) []) := Lib.hid (told_got hT3); have HE3 := Lib.hid hE3'; have HO3 := Lib.hid (HE0.out.fr hF3); clear hR3 hT3 hF3 hE3')
        | (at_builtin; refine wpList_append_got rfl (.tmp 71) (.tmp 72) rfl hi hz0 hz1 hz2 (by decide) rfl rfl HG3.out HL3.out HR3.out rfl (by simp; omega) ?_; intro v4 w4 hG4 hR4 hE4; have HR4 := Lib.hid hR4; have HE4 := Lib.hid (hE4 _ _ _ HE3.out); have HO4 := Lib.hid (hE4 _ _ _ HO3.out); have HT4 := Lib.hid (err_text HS1.out HI1.out HR4.out.base HTx.out HTz.out HQ.out.1 HQ.out.2.1 (errAt_flt HE4.out)); clear hG4 hR4 hE4)
        | (go_at_call 31; (with_reducible refine HT4.out.mono ?_); rintro ev w5 ⟨rfl, hb5⟩; have HR5 := Lib.hid (HR4.out.below hb5); have HE5 := Lib.hid (HE4.out.fr (Fr.of_below HR4.out.lt hb5)); have HO5 := Lib.hid (HO4.out.fr (Fr.of_below HR4.out.lt hb5)); have HT5 := Lib.hid (err_text HS1.out HI1.out HR5.out.base HTx.out HTz.out HQ.out.1 HQ.out.2.1 (errAt_flt HO5.out)); clear hb5 HT4)
        | (go_at_call 31; (with_reducible refine HT5.out.mono ?_); rintro ev w6 ⟨rfl, hb6⟩; have HR6 := Lib.hid (HR5.out.below hb6); have HE6 := Lib.hid (HE5.out.fr (Fr.of_below HR5.out.lt hb6)); have HT6 := Lib.hid (err_text HS1.out HI1.out HR6.out.base HTx.out HTz.out HQ.out.1 HQ.out.2.1 (errAt_flt HE6.out)); clear hb6 HT5)
        | (go_at_call 31; (with_reducible refine HT6.out.mono ?_); rintro ev w7 ⟨rfl, hb7⟩; have HR7 := Lib.hid (HR6.out.below hb7); have HE7 := Lib.hid (HE6.out.fr (Fr.of_below HR6.out.lt hb7)); have HT7 := Lib.hid (err_text HS1.out HI1.out HR7.out.base HTx.out HTz.out HQ.out.1 HQ.out.2.1 (HGb.out.below HR7.out.base)); clear hb7 HT6)
        | (go_at_call 31; (with_reducible refine HT7.out.mono ?_); rintro ev w8 ⟨rfl, hb8⟩; have HR8 := Lib.hid (HR7.out.below hb8); have HK8 := Lib.hid (kinds_r A g3 fe _ _ w8 (HS1.out.below HR8.out.base) HQ.out.2.2.1 HQ.out.2.2.2 (errAt_flt (HE7.out.fr (Fr.of_below HR7.out.lt hb8)))); clear hb8 HT7)
        | (go_at_call 11; (with_reducible refine HK8.out.mono ?_); rintro ev w9 ⟨rfl, hb9⟩; have HR9 := Lib.hid (HR8.out.below hb9); clear hb9))
      all_goals
        go_ret
        exact ⟨rfl, HB1.out.trans (HR9.out.base.mono HB1.out.size)⟩
    | none =>
      have hev := HEk.out
      rw [hf] at hev
      obtain ⟨_, rfl, _⟩ := hev
      by_cases hkn : k ≤ zs.length
      · by_cases hk2 : k < zs.length
        · obtain ⟨ad, rfl, hcx⟩ := HX.out k hk2
          have hcx' := (HRk.out.base.cell (World.block_lt_of_cell? _ _ (((HB1.out.cell (World.block_lt_of_cell? _ _ hcx)).trans hcx)))).trans ((HB1.out.cell (World.block_lt_of_cell? _ _ hcx)).trans hcx)
          have k0 : (0 : Int) ≤ (k : Int) := Int.natCast_nonneg _
          have k1 : (k : Int) < (zs.length : Int) := by omega
          obtain ⟨r, hr, hr2⟩ := within_ok zs[k] (t.size - p + 1) (by omega) (by omega)
          have HW := Lib.hid (fun w' => larderlaw04_within.calls zs[k] ((t.size : Int) - (p : Int) + 1) (r : Int) w' (by rw [show (t.size : Int) - (p : Int) + 1 = ((t.size - p + 1 : Nat) : Int) by omega]; exact hr))
          have hq : p + r ≤ t.size := by omega
          have hsl := fun wx : World => piece_run t p (p + r) (by omega) hq wx
          simp only [Int.natCast_add] at hsl
          have hql := piece_list t p (p + r) (by omega) hq
          have hqs := piece_size t p (p + r) (by omega) hq
          obtain ⟨m, hm⟩ : ∃ m, m = t.extract p (p + r) := ⟨_, rfl⟩
          rw [← hm] at hql hqs
          simp only [← hm] at hsl
          have HQl := Lib.hid hql
          have HQs := Lib.hid hqs
          clear hql hqs hm
          have HFn := Lib.hid hf
          have n1 := new_rows_le ((L8 t).take p)
          have n2 := new_rows_le ((L8 t).take (p + r))
          clear hcx hr hf
          go_wp2_with (first
            | (go_at_call 17; (with_reducible refine (HW.out _).mono ?_); rintro ev w2 ⟨rfl, hd2⟩; have hbl := hd2.below; have HR2 := Lib.hid (HRk.out.below hbl); have HG2 := Lib.hid (HGk.out.fr (Fr.of_below HRk.out.lt hbl)); have HFd := Lib.hid (piece_feed HS1.out.sf HE1.out HR2.out HFn.out m (by have := HQs.out; omega)); rw [HQl.out] at HFd; clear hd2 hbl)
            | (go_at_call 10; (with_reducible refine HFd.out.mono ?_); rintro ev w3 ⟨vl, ve, L, rfl, hR3, hG3, hrows, hE3, hF3⟩; have HG3 := Lib.hid (HG2.out.fr hF3); have HR3 := Lib.hid hR3; have HL3 := Lib.hid hG3; have HE3 := Lib.hid hE3; have HRw := Lib.hid hrows; clear hR3 hG3 hrows hE3 hF3)
            | (at_builtin; refine wpList_append_got rfl (.tmp 62) (.tmp 63) rfl hi hz0 hz1 hz2 (by decide) rfl rfl HG3.out HL3.out HR3.out rfl (by have := congrArg List.length HRw.out; rw [List.length_append] at this; omega) ?_; intro v4 w4 hG4 hR4 hE4; have HG4 := Lib.hid hG4; have HR4 := Lib.hid hR4; have HE4 := Lib.hid (hE4 _ _ _ HE3.out); clear hG4 hR4 hE4))
          go_roundw
          case rel => exact ⟨k + 1, p + r, by omega, hq, by omega, by go_num, by go_num, HR4, Lib.hid (by rw [HRw.out]; exact HG4.out), Lib.hid ⟨_, HE4.out⟩⟩
          case measure => first | (simp [intOf]; done) | (simp [intOf]; omega)
        · obtain rfl : k = zs.length := by omega
          have hsl := fun wx : World => piece_run t p t.size hp (Nat.le_refl _) wx
          have hql := piece_list t p t.size hp (Nat.le_refl _)
          have hqs := piece_size t p t.size hp (Nat.le_refl _)
          obtain ⟨m, hm⟩ : ∃ m, m = t.extract p t.size := ⟨_, rfl⟩
          rw [← hm] at hql hqs
          simp only [← hm] at hsl
          have HQs := Lib.hid hqs
          have HFn := Lib.hid hf
          have n1 := new_rows_le ((L8 t).take p)
          have n2 := new_rows_le ((L8 t).take t.size)
          have HFd := Lib.hid (piece_feed HS1.out.sf HE1.out HRk.out HFn.out m (by omega))
          rw [hql] at HFd
          clear hql hqs hm hf
          go_wp2_with (first
            | (go_at_call 10; (with_reducible refine HFd.out.mono ?_); rintro ev w3 ⟨vl, ve, L, rfl, hR3, hG3, hrows, hE3, hF3⟩; have HG3 := Lib.hid (HGk.out.fr hF3); have HR3 := Lib.hid hR3; have HL3 := Lib.hid hG3; have HE3 := Lib.hid hE3; have HRw := Lib.hid hrows; clear hR3 hG3 hrows hE3 hF3)
            | (at_builtin; refine wpList_append_got rfl (.tmp 62) (.tmp 63) rfl hi hz0 hz1 hz2 (by decide) rfl rfl HG3.out HL3.out HR3.out rfl (by have := congrArg List.length HRw.out; rw [List.length_append] at this; omega) ?_; intro v4 w4 hG4 hR4 hE4; have HG4 := Lib.hid hG4; have HR4 := Lib.hid hR4; have HE4 := Lib.hid (hE4 _ _ _ HE3.out); clear hG4 hR4 hE4))
          go_roundw
          case rel => exact ⟨zs.length + 1, t.size, by omega, by omega, by omega, by go_num, rfl, HR4, Lib.hid (by rw [HRw.out]; exact HG4.out), Lib.hid ⟨_, HE4.out⟩⟩
          case measure => first | (simp [intOf]; done) | (simp [intOf]; omega)
      · have hp' : p = t.size := hkp (by omega)
        subst hp'
        have hall : (L8 t).take t.size = L8 t := List.take_of_length_le (by rw [L8_len]; omega)
        rw [hall] at HRk HGk hf
        have hcl := close_r HS1.out.sf HE1.out HRk.out (live_told (live_feed (L8 t) RS.new (fun _ => inv_new)))
        have HCl := Lib.hid hcl
        have nr := fin_rows (RS.new.feed (L8 t)).bare rfl
        have n1 := new_rows_le (L8 t)
        have hpo : parseO t.data.toList = (if (RS.new.feed (L8 t)).bare.fin.fault ≠ none then ([], (RS.new.feed (L8 t)).bare.fin.fault) else ((RS.new.feed (L8 t)).rows ++ (RS.new.feed (L8 t)).bare.fin.rows, none)) := by
          unfold parseO
          rw [if_neg (by rw [show t.data.toList = L8 t from rfl, hf]; simp)]
          rfl
        have HI1 := Lib.hid (HI.out.below HB1.out)
        cases hF : (RS.new.feed (L8 t)).bare.fin.fault with
        | some f =>
          obtain ⟨fl, fc, fe⟩ := f
          obtain ⟨q1, q2, q3, q5⟩ := over_fault hf hF
          have q6 : 1 ≤ fe ∧ fe ≤ 20 := by unfold coded at q3; omega
          obtain ⟨tx, htx, htz⟩ := HS1.out.ht fe q6.1 q6.2
          have HQ := Lib.hid (show fl ≤ 499999 ∧ fc ≤ 499999 ∧ 1 ≤ fe ∧ fe ≤ 20 from ⟨by omega, by omega, q6.1, q6.2⟩)
          have HTx := Lib.hid htx
          have HTz := Lib.hid htz
          rw [hF, if_pos (by simp)] at hpo
          have hvb := HFb.out
          rw [hpo] at hvb
          obtain ⟨_, gb, _, rfl, hgb⟩ := hvb
          have HGb := Lib.hid (show Flt A w1 gb fl fc fe from hgb)
          have HFs := Lib.hid hF
          clear hF hf q1 q2 q3 q5 q6 htx htz hpo hgb hcl
          go_wp2_with (first
            | (go_at_call 12; (with_reducible refine HCl.out.mono ?_); rintro ev w3 ⟨vl, ve, rfl, hR3, hT3, hE3, hF3⟩; rw [HFs.out] at hE3; have hE3' := hE3; obtain ⟨⟨_, g3, _, rfl, _⟩, _⟩ := hE3; have HR3 := Lib.hid hR3; have HG3 := Lib.hid (HGk.out.fr hF3); have HL3 := Lib.hid (told_got hT3); have HE3 := Lib.hid hE3'; clear hR3 hT3 hF3 hE3')
            | (at_builtin; refine wpList_append_got rfl (.tmp 71) (.tmp 72) rfl hi hz0 hz1 hz2 (by decide) rfl rfl HG3.out HL3.out HR3.out rfl (by omega) ?_; intro v4 w4 hG4 hR4 hE4; have HR4 := Lib.hid hR4; have HE4 := Lib.hid (hE4 _ _ _ HE3.out); have HT4 := Lib.hid (err_text HS1.out HI1.out HR4.out.base HTx.out HTz.out HQ.out.1 HQ.out.2.1 (errAt_flt HE4.out)); clear hG4 hR4 hE4)
            | (go_at_call 31; (with_reducible refine HT4.out.mono ?_); rintro ev w7 ⟨rfl, hb7⟩; have HR7 := Lib.hid (HR4.out.below hb7); have HE7 := Lib.hid (HE4.out.fr (Fr.of_below HR4.out.lt hb7)); have HT7 := Lib.hid (err_text HS1.out HI1.out HR7.out.base HTx.out HTz.out HQ.out.1 HQ.out.2.1 (HGb.out.below HR7.out.base)); clear hb7 HT4)
            | (go_at_call 31; (with_reducible refine HT7.out.mono ?_); rintro ev w8 ⟨rfl, hb8⟩; have HR8 := Lib.hid (HR7.out.below hb8); have HK8 := Lib.hid (kinds_r A g3 fe _ _ w8 (HS1.out.below HR8.out.base) HQ.out.2.2.1 HQ.out.2.2.2 (errAt_flt (HE7.out.fr (Fr.of_below HR7.out.lt hb8)))); clear hb8 HT7)
            | (go_at_call 11; (with_reducible refine HK8.out.mono ?_); rintro ev w9 ⟨rfl, hb9⟩; have HR9 := Lib.hid (HR8.out.below hb9); clear hb9))
          all_goals
            go_ret
            exact ⟨rfl, HB1.out.trans (HR9.out.base.mono HB1.out.size)⟩
        | none =>
          rw [hF, if_neg (by simp)] at hpo
          have hvb := HFb.out
          have hvg := HG.out
          rw [hpo] at hvb hvg
          obtain rfl : vb = .nilIface := hvb
          have HSm := Lib.hid (good_same hvg)
          obtain ⟨A1, c1, rfl, hc1, hC1⟩ := good_reads hvg
          have HC1 := Lib.hid hC1
          have HL1 := Lib.hid hc1
          have HFs := Lib.hid hF
          clear hF hf hpo hvg hcl hc1 hC1
          go_wp2_with (first
            | (go_at_call 12; (with_reducible refine HCl.out.mono ?_); rintro ev w3 ⟨vl, ve, rfl, hR3, hT3, hE3, hF3⟩; rw [HFs.out] at hE3; obtain ⟨rfl, _⟩ := hE3; have HR3 := Lib.hid hR3; have HG3 := Lib.hid (HGk.out.fr hF3); have HL3 := Lib.hid (told_got hT3); clear hR3 hT3 hF3)
            | (at_builtin; refine wpList_append_got rfl (.tmp 71) (.tmp 72) rfl hi hz0 hz1 hz2 (by decide) rfl rfl HG3.out HL3.out HR3.out rfl (by omega) ?_; intro v4 w4 hG4 hR4 hE4; obtain ⟨A4, c4, rfl, hc4, hC4⟩ := good_reads hG4.good; have HR4 := Lib.hid hR4; have HC4 := Lib.hid hC4; have HL4 := Lib.hid hc4; clear hG4 hR4 hE4 hC4 hc4)
            | (go_at_call 16; obtain ⟨k3, hk3⟩ := HSm.out; (with_reducible refine (larderlaw04_sameRows.calls k3 _ _ _ _ _ _ _ _ HC4.out HL4.out (Kd.C_below HC1.out HR4.out.base) HL1.out hk3).mono ?_); rintro e w5 ⟨rfl, hd5⟩))
          all_goals
            go_ret
            have h14 := HB1.out.trans (HR4.out.base.mono HB1.out.size)
            exact ⟨rfl, h14.trans (hd5.below.mono h14.size)⟩
end Go.Proofs.YtinjlpodcabfaaaDoor.Sht
