/- Feed, walked: the loop. -/
import Derived.Test.YtappphffbnkloaaGreatDoorShtK
import Derived.LoopTactic
set_option linter.unusedVariables false
set_option linter.unusedSimpArgs false
namespace Go.Proofs.YtappphffbnkloaaGreatDoor.Sht
open Go Go.RowKit Go.Joins
attribute [local go_sem ↓] Go.wp_at_zero Go.wp_at_succ
variable {A : Nat → Addr} {W0 W : World} {b : Nat} {s : RS}
theorem R.drewN (h : R A W0 W b s) (n : Nat) : R A W0 (W.drewN n) b s := by
  obtain ⟨_, _, _, _, _, h⟩ := h
  exact R.mk (h.drewN n)
set_option maxHeartbeats 8000000 in
set_option maxRecDepth 100000 in
theorem feed_r (hF : SF W0 A) (hE : ET W0) (hR : R A W0 W b s) (hL : s.Live) (hd : ∀ l c, s.fault ≠ some (l, c, 9)) (g off cap : Nat) (l : List UInt8) (hp : Piece W g off l) (hg : g < W.heap.size) (hw : ¬ wr W b g) (hl : l.length ≤ 4611686018427387904) :
    Calls Tryz.prog 15 #[PT b, .slice (some ⟨g, off, none⟩) l.length cap] W (Fed A W0 W b (s.feed l)) := by
  obtain ⟨vc, vr, vl, fl, lv, h⟩ := hR
  have HI := Lib.hid (isDone hF h hd)
  have HR := Lib.hid (R.mk h)
  obtain ⟨_, _, _, _, _, _, _, _, _, _, _, _, c12⟩ := h.cells
  have gE : W.cell? ⟨4, 0, none⟩ = some (errV A 9) := h.gl hF 9 (cod (by omega))
  have HF := Lib.hid hF
  have HE := Lib.hid hE
  have HL := Lib.hid hL
  have HP := Lib.hid hp
  have HW := Lib.hid hw
  clear h hF hE hL hp hw hd
  go_enter Tryz.func15, Tryz.ntmps15
  go_wp2
  go_quiet ((go_at_call 27; exact Calls.quiet_of_same (HI.out _ (by rfl))))
  go_wp2
  go_loopw [6] (fun i wr => ∃ k : Nat, k ≤ l.length ∧ i = .int .i64 (k : Int) ∧ Hid (R A W0 wr b (s.feed (l.take k))) ∧ Hid (Fr b W wr)) (fun i _ => l.length - (intOf i).toNat)
  case atStart => exact ⟨0, Nat.zero_le _, rfl, Lib.hid (R.drewN HR.out _), Lib.hid ((Fr.refl b W).drewN _)⟩
  case round =>
    obtain ⟨k, hk, rfl, HRk, HFk⟩ := hrel
    clear c12 gE
    have hlive := live_feed (l.take k) s HL.out
    have HLk := Lib.hid hlive
    clear hlive
    obtain ⟨sk, hsk⟩ : ∃ sk, sk = s.feed (l.take k) := ⟨_, rfl⟩
    rw [← hsk] at HRk HLk
    have HS := Lib.hid hsk
    clear hsk
    by_cases hlt : k < l.length
    · by_cases hf : sk.fault = none
      · -- a byte is taken
        have HI := HLk.out hf
        have HIV := Lib.hid HI
        have hx : s.feed (l.take (k + 1)) = sk.step l[k] := by
          have e : l.take (k + 1) = l.take k ++ [l[k]] := by rw [List.take_succ_eq_append_getElem hlt]
          rw [e, feed_snoc _ _ _ (by rw [← HS.out]; exact hf), ← HS.out]
        have HX := Lib.hid hx
        have HFF := Lib.hid hf
        clear hx
        obtain ⟨vc2, vr2, vl2, fl2, lv2, h2⟩ := HRk.out
        obtain ⟨-, -, c2, c3, c4, -, -, -, -, -, -, -, c12⟩ := h2.cells
        obtain ⟨_, _, f2, f3, f4, _, _, _, _, _, _, _, _⟩ := h2.free
        have hflt := h2.flt
        rw [hf] at hflt
        simp only [FaultAt] at hflt
        subst hflt
        have hgb := HFk.out.keep g hg HW.out
        have hpc : wr.cell? ⟨g, off + k, none⟩ = some (.int .u8 (l[k].toNat : Int)) := (World.cell?_of_block (a := ⟨g, off + k, none⟩) (w := W) hgb).trans (HP.out k hlt)
        have k0 : (0 : Int) ≤ (k : Int) := Int.natCast_nonneg _
        have k1 : (k : Int) < (l.length : Int) := by omega
        have hall := HI.all
        have hbd := HI.bd
        have hline := hbd.line
        have hcol := hbd.col
        have H2R := Lib.hid (R.mk h2)
        have HH2 := Lib.hid h2
        clear hbd HI hf h2
        by_cases ha : sk.all = 262144
        · have q4 : ((sk.all : Int) == 262144) = true := by simp [ha]
          have gL : wr.cell? ⟨0, 0, none⟩ = some (errV A 20) := HH2.out.gl HF.out 20 (cod (by omega))
          have HLL := Lib.hid (fail_r sk.line sk.col 20 (cod (by omega)) H2R.out.drew)
          have HFIN : Hid (s.feed l = sk.fail sk.line sk.col 20) := Lib.hid (by
            rw [← List.take_append_drop k l, feed_app, ← HS.out, List.drop_eq_getElem_cons hlt, feed_cons HFF.out, RS.step, if_pos ha]
            exact feed_stop (by intro e; cases e) _)
          clear ha
          go_wp2
          go_still_tail 6, (by kernel_rfl)
          change wpList _ _ _ _ _ wr.drew
          go_wp2_with (go_at_call 45; (with_reducible refine HLL.out.mono ?_); rintro e w2 ⟨rfl, hR2, hF2⟩; have HR2 := Lib.hid hR2; have HF2 := Lib.hid hF2; clear hR2 hF2)
          clear c2 c3 c4 f2 f3 f4 c12
          obtain ⟨vc2, vr2, vl2, fl2, lv2, h2⟩ := HR2.out
          obtain ⟨_, _, _, _, _, _, _, _, _, _, _, _, c12⟩ := h2.cells
          obtain ⟨_, hT, hA⟩ := h2.ends HE.out
          have HT := Lib.hid hT
          have HA := Lib.hid hA
          have H2 := Lib.hid h2
          clear hT hA h2
          go_region_with (first
            | (go_at_call 37; (with_reducible refine HT.out.mono ?_); rintro e w3 ⟨rfl, rfl⟩)
            | (go_at_call 38; (with_reducible refine HA.out.mono ?_); rintro e w3 ⟨ve, rfl, hv, hb3⟩; have HV := Lib.hid hv; have HB3 := Lib.hid hb3; clear hv hb3))
          all_goals
            simp only [List.getElem_toArray, List.getElem_cons_succ, List.getElem_cons_zero, Act.put, List.setIfInBounds_toArray, List.set_cons_zero, List.set_cons_succ]
            go_wp2
            go_ret2
            show Fed A W0 W b (s.feed l) (.returned (.tuple #[vl2, ve])) _
            rw [HFIN.out]
            exact fed_mono (fed_of H2.out HV.out HB3.out) (HFk.out.drew.trans HF2.out)
        · have q4 : ((sk.all : Int) == 262144) = false := by simp; omega
          have h4 := HH2.out.set 4 (.int .i64 ((sk.all : Int) + 1)) { sk with all := sk.all + 1 } rfl rfl rfl rfl rfl
          have hf4 := HH2.out.set_fr h4 rfl rfl rfl
          obtain ⟨F, hF0, hcf, hN⟩ := next_r HF.out l[k] (bump HIV.out) (by omega) HIV.out.bk (R.mk h4)
          have c0 : wr.cell? ⟨b, 0, none⟩ = some (.func (.func F) #[PT b] #[]) := by rw [← hF0]; exact (bcell HH2.out.blk 0).trans rfl
          unfold Enters at hcf
          have hkn := kNext { sk with all := sk.all + 1 } l[k]
          have HKN := Lib.hid hkn
          have HNX := Lib.hid hN
          have HF4 := Lib.hid hf4
          have hst := step_on ha l[k]
          have HST := Lib.hid hst
          clear h4 hf4 hF0 hN hkn hst ha
          by_cases h10 : l[k] = 10
          · have q10 : ((l[k].toNat : Int) == 10) = true := byte_eq h10
            have H10 := Lib.hid h10
            clear h10
            go_wp2_with ((with_reducible refine HNX.out.mono ?_); rintro e w2 ⟨rfl, hR2, hF2⟩; have HF2 := Lib.hid hF2; obtain ⟨vc3, vr3, vl3, fl3, lv3, h3⟩ := hR2; have HH3 := Lib.hid h3; obtain ⟨-, -, d2, d3, -⟩ := h3.cells; obtain ⟨_, _, g2, g3, _⟩ := h3.free; rw [HKN.out.line] at d2; rw [HKN.out.col] at d3; clear h3 hF2)
            obtain ⟨s2, hs2⟩ : ∃ s2, s2 = RS.next { sk with all := sk.all + 1 } l[k] := ⟨_, rfl⟩
            have hk2 := HKN.out
            have hst2 := HST.out
            have h3 := HH3.out
            rw [← hs2] at hk2 hst2 h3
            have ec : (sk.col : Int) = (s2.col : Int) := by rw [hk2.col]
            have el : (sk.line : Int) = (s2.line : Int) := by rw [hk2.line]
            rw [ec]
            rw [el]
            have h5 := h3.set 3 (.int .i64 ((s2.col : Int) + 1)) { s2 with col := s2.col + 1 } rfl rfl rfl rfl rfl
            have h6 := h5.set 2 (.int .i64 ((s2.line : Int) + 1)) { s2 with col := s2.col + 1, line := s2.line + 1 } rfl rfl rfl rfl rfl
            have h7 := h6.set 3 (.int .i64 0) { s2 with line := s2.line + 1, col := 0 } rfl rfl rfl rfl rfl
            have e7 : s.feed (l.take (k + 1)) = { s2 with line := s2.line + 1, col := 0 } := by rw [HX.out, hst2, RS.on, if_pos H10.out]
            refine ⟨⟨k + 1, by omega, by go_num, Lib.hid ?_, Lib.hid ?_⟩, by simp [intOf]; omega⟩
            · rw [e7]; exact R.mk h7
            · exact ((((HFk.out.trans HF4.out).trans HF2.out).trans (h3.set_fr h5 rfl rfl rfl)).trans (h5.set_fr h6 rfl rfl rfl)).trans (h6.set_fr h7 rfl rfl rfl)
          · have q10 : ((l[k].toNat : Int) == 10) = false := byte_ne h10
            have H10 := Lib.hid h10
            clear h10
            go_wp2_with ((with_reducible refine HNX.out.mono ?_); rintro e w2 ⟨rfl, hR2, hF2⟩; have HF2 := Lib.hid hF2; obtain ⟨vc3, vr3, vl3, fl3, lv3, h3⟩ := hR2; have HH3 := Lib.hid h3; obtain ⟨-, -, d2, d3, -⟩ := h3.cells; obtain ⟨_, _, g2, g3, _⟩ := h3.free; rw [HKN.out.line] at d2; rw [HKN.out.col] at d3; clear h3 hF2)
            obtain ⟨s2, hs2⟩ : ∃ s2, s2 = RS.next { sk with all := sk.all + 1 } l[k] := ⟨_, rfl⟩
            have hk2 := HKN.out
            have hst2 := HST.out
            have h3 := HH3.out
            rw [← hs2] at hk2 hst2 h3
            have ec : (sk.col : Int) = (s2.col : Int) := by rw [hk2.col]
            have el : (sk.line : Int) = (s2.line : Int) := by rw [hk2.line]
            rw [ec]
            have h5 := h3.set 3 (.int .i64 ((s2.col : Int) + 1)) { s2 with col := s2.col + 1 } rfl rfl rfl rfl rfl
            have e7 : s.feed (l.take (k + 1)) = { s2 with col := s2.col + 1 } := by rw [HX.out, hst2, RS.on, if_neg H10.out]
            refine ⟨⟨k + 1, by omega, by go_num, Lib.hid ?_, Lib.hid ?_⟩, by simp [intOf]; omega⟩
            · rw [e7]; exact R.mk h5
            · exact ((HFk.out.trans HF4.out).trans HF2.out).trans (h3.set_fr h5 rfl rfl rfl)
      · obtain ⟨vc2, vr2, vl2, fl2, lv2, h2⟩ := HRk.out
        obtain ⟨_, _, _, _, _, _, _, _, _, _, _, _, c12⟩ := h2.cells
        have hflt := h2.flt
        obtain ⟨f, hf'⟩ := Option.ne_none_iff_exists'.1 hf
        obtain ⟨fl, fc, fe⟩ := f
        rw [hf'] at hflt
        obtain ⟨_, fg, _, rfl, _⟩ := hflt
        clear hf'
        have hfin : s.feed l = sk := by rw [← List.take_append_drop k l, feed_app, ← HS.out, feed_stop hf]
        have HFIN := Lib.hid hfin
        obtain ⟨_, hT, hA⟩ := h2.ends HE.out
        have HT := Lib.hid hT
        have HA := Lib.hid hA
        have H2 := Lib.hid h2
        clear hT hA h2 hfin
        go_wp2
        go_region_with (first
          | (go_at_call 37; (with_reducible refine HT.out.mono ?_); rintro e w2 ⟨rfl, rfl⟩)
          | (go_at_call 38; (with_reducible refine HA.out.mono ?_); rintro e w3 ⟨ve, rfl, hv, hb3⟩; have HV := Lib.hid hv; have HB3 := Lib.hid hb3; clear hv hb3))
        all_goals
          simp only [List.getElem_toArray, List.getElem_cons_succ, List.getElem_cons_zero, Act.put, List.setIfInBounds_toArray, List.set_cons_zero, List.set_cons_succ]
          go_wp2
          go_ret2
          show Fed A W0 W b (s.feed l) (.returned (.tuple #[vl2, ve])) _
          rw [HFIN.out]
          exact fed_mono (fed_of H2.out HV.out HB3.out) HFk.out
    · obtain ⟨vc2, vr2, vl2, fl2, lv2, h2⟩ := HRk.out
      obtain ⟨_, _, _, _, _, _, _, _, _, _, _, _, c12⟩ := h2.cells
      have hfin : s.feed l = sk := by rw [HS.out, List.take_of_length_le (by omega)]
      have HFIN := Lib.hid hfin
      obtain ⟨_, hT, hA⟩ := h2.ends HE.out
      have HT := Lib.hid hT
      have HA := Lib.hid hA
      have H2 := Lib.hid h2
      clear hT hA h2 hfin
      go_wp2
      go_region_with (first
        | (go_at_call 37; (with_reducible refine HT.out.mono ?_); rintro e w2 ⟨rfl, rfl⟩)
        | (go_at_call 38; (with_reducible refine HA.out.mono ?_); rintro e w3 ⟨ve, rfl, hv, hb3⟩; have HV := Lib.hid hv; have HB3 := Lib.hid hb3; clear hv hb3))
      all_goals
        simp only [List.getElem_toArray, List.getElem_cons_succ, List.getElem_cons_zero, Act.put, List.setIfInBounds_toArray, List.set_cons_zero, List.set_cons_succ]
        go_wp2
        go_ret2
        show Fed A W0 W b (s.feed l) (.returned (.tuple #[vl2, ve])) _
        rw [HFIN.out]
        exact fed_mono (fed_of H2.out HV.out HB3.out) HFk.out
end Go.Proofs.YtappphffbnkloaaGreatDoor.Sht
