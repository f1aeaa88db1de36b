/- SheetParses, walked. -/
import Derived.Test.YtinjlpodcabfaaaDoorShtDg
import Derived.Test.YtinjlpodcabfaaaDoorShtRd
import Derived.Test.YtinjlpodcabfaaaDoorShtV
import Derived.Test.YtinjlpodcabfaaaDoorGSxf14
set_option linter.unusedVariables false
set_option linter.unusedSimpArgs false
namespace Go.Proofs.YtinjlpodcabfaaaDoor.Sht
open Go Go.RowKit Go.Proofs.YtinjlpodcabfaaaDoorW.PrintWords Go.Proofs.YtinjlpodcabfaaaDoor.GS
attribute [local go_sem ↓] Go.wp_at_zero Go.wp_at_succ
variable {A : Nat → Addr}
theorem coded_facts {e : Nat} (h : coded e) : 1 ≤ e ∧ e ≤ 20 ∧ e ≠ 16 ∧ e ≠ 17 := by unfold coded at h; omega
theorem good_reads0 {w : World} {B : Nat} {v : Value} (h : GoodRows B w v []) : ∃ A c, v = .slice A 0 c ∧ Kd.C (Kd.slice 9 Kd.string) w A 0 [] ∧ ∃ k, larderlaw04_sameRows.f k [] [] = some true := by
  obtain ⟨A, c, h1, h2, h3⟩ := good_reads h
  exact ⟨A, c, h1, h3, good_same h⟩
theorem same0 (k : Nat) (A1 A2 : Option Addr) (c1 c2 : Nat) (w : World) (h1 : Kd.C (Kd.slice 9 Kd.string) w A1 0 []) (h2 : Kd.C (Kd.slice 9 Kd.string) w A2 0 []) (hk : larderlaw04_sameRows.f k [] [] = some true) :
    Calls Tryd.prog 16 #[.slice A1 0 c1, .slice A2 0 c2] w fun e w' => e = .returned (.bool true) ∧ Drawn0 w w' :=
  larderlaw04_sameRows.calls k A1 c1 [] A2 c2 [] true w h1 (Nat.zero_le _) h2 (Nat.zero_le _) hk
set_option maxHeartbeats 8000000 in
set_option maxRecDepth 100000 in
theorem sheetParses_calls (w : World) (hS : SG w A) (hE : ET w) (hT : Lib.TabIs Tryd.prog w "internal/strconv.uint64pow10" .u64 Lib.pow10Tab) (t : ByteArray) (ht : t.size ≤ 140737488355328) :
    Calls Tryd.prog 5 #[.string t] w fun e w' => e = .returned (.bool true) ∧ Below w.heap.size w w' := by
  obtain ⟨r, ⟨K, hK⟩, hPR⟩ := parseRef t (by rw [L8_len]; exact ht)
  have hK := hK K (Nat.le_refl _)
  obtain ⟨o, ho⟩ : ∃ o, o = parseO (L8 t) := ⟨_, rfl⟩
  rw [← ho] at hPR
  have HP : Hid (Calls Tryd.prog 7 #[.string t] w fun e w' => ∃ vl ve, e = .returned (.tuple #[vl, ve]) ∧ GoodRows w.heap.size w' vl o.1 ∧ FaultAt w' w.heap.size A ve o.2 ∧ Below w.heap.size w w') :=
    Lib.hid (by rw [ho]; exact parse_r w hS.sf hE t (by omega))
  have HI := Lib.hid (it_of_tab w hT)
  have HS := Lib.hid hS
  have HE := Lib.hid hE
  clear hS hE hT ho
  rcases hPR with ⟨h1, rfl⟩ | ⟨l, c, e, q, h1, h2, h3, h4, h5, rfl⟩
  · have HR := Lib.hid (fun w' => larderref04_Parse.calls K t _ _ _ _ _ _ w' hK)
    have H1 := Lib.hid h1
    clear hK h1
    go_enter Tryd.func5, Tryd.ntmps5
    go_wp2_with (first
      | (go_at_call 7; (with_reducible refine HP.out.mono ?_); rintro e w1 ⟨vl, ve, rfl, hg, hf, hb1⟩; rw [H1.out] at hf; obtain rfl : ve = .nilIface := hf; have HSm := Lib.hid (good_same hg); obtain ⟨A1, c1, rfl, hc1, hC1⟩ := good_reads hg; have HC1 := Lib.hid hC1; have HL1 := Lib.hid hc1; have HB1 := Lib.hid hb1; clear hg hb1 hC1 hc1)
      | (go_at_call 14; (with_reducible refine (HR.out _).mono ?_); rintro e w2 ⟨v0, rfl, hs, hb2⟩; obtain ⟨A2, c2, rfl, hc2, hC2⟩ := Kd.R_reads (Kd.S_R hs); have HC2 := Lib.hid hC2; have HL2 := Lib.hid hc2; have HB2 := Lib.hid hb2; clear hs hb2 hC2 hc2)
      | (go_at_call 15; (with_reducible refine (said_none 0 0 0 0 _).mono ?_); rintro e w3 ⟨rfl, hb3⟩; have HB3 := Lib.hid (((Below.refl _ w2).alloc (Nat.le_refl _) _).trans (hb3.mono (by simp))); clear hb3)
      | (go_at_call 16; obtain ⟨k3, hk3⟩ := HSm.out; (with_reducible refine (larderlaw04_sameRows.calls k3 _ _ _ _ _ _ _ _ (Kd.C_below HC1.out (HB2.out.trans (HB3.out.mono HB2.out.size))) HL1.out (Kd.C_below HC2.out HB3.out) HL2.out hk3).mono ?_); rintro e w4 ⟨rfl, hd4⟩))
    go_ret
    have h13 := HB1.out.trans ((HB2.out.trans (HB3.out.mono HB2.out.size)).mono HB1.out.size)
    exact ⟨rfl, h13.trans (hd4.below.mono h13.size)⟩
  · have HR := Lib.hid (fun w' => larderref04_Parse.calls K t _ _ _ _ _ _ w' hK)
    have H1 := Lib.hid h1
    have H2 := Lib.hid h2
    have H4 := Lib.hid h4
    have H5 := Lib.hid h5
    clear hK h1 h2 h3 h4 h5
    go_enter Tryd.func5, Tryd.ntmps5
    go_wp2_with (first
      | (go_at_call 7; (with_reducible refine HP.out.mono ?_); rintro ev w1 ⟨vl, ve, rfl, hg, hf, hb1⟩; rw [H1.out] at hf; obtain ⟨hcd, g, _, rfl, hgc⟩ := hf; rw [H2.out] at hg; obtain ⟨A1, c1, rfl, hC1, hSm⟩ := good_reads0 hg; have HSm := Lib.hid hSm; have HC1 := Lib.hid hC1; have HB1 := Lib.hid hb1; have HGc := Lib.hid hgc; have HCd := Lib.hid (coded_facts hcd); clear hg hb1 hC1 hgc hcd hSm)
      | (go_at_call 14; (with_reducible refine (HR.out _).mono ?_); rintro ev w2 ⟨v0, rfl, hs, hb2⟩; obtain ⟨A2, c2, rfl, hc2, hC2⟩ := Kd.R_reads (Kd.S_R hs); have HC2 := Lib.hid hC2; have HB2 := Lib.hid hb2; clear hs hb2 hC2 hc2)
      | (go_at_call 15; have HK := Lib.hid (HB2.out.trans (((Below.refl _ w2).alloc (Nat.le_refl _) (.cells #[.int .i64 (e : Int), .int .i64 (l : Int), .int .i64 (c : Int), .int .i64 q, .int .i64 0] 41)).mono HB2.out.size)); have HK0 := Lib.hid (HB1.out.trans (HK.out.mono HB1.out.size)); (with_reducible refine (said_some A numeral _ _ _ _ _ _ (HS.out.below HK0.out) (HE.out.below HK0.out) (HI.out.below HK0.out) HCd.out.1 HCd.out.2.1 HCd.out.2.2.1 HCd.out.2.2.2 H4.out H5.out digits_eq ((HK.out.block _ (blt HGc.out)).trans HGc.out)).mono ?_); rintro ev w3 ⟨rfl, hb3⟩; have HB3 := Lib.hid (((Below.refl _ w2).alloc (Nat.le_refl _) _).trans (hb3.mono (by simp))); clear hb3)
      | (go_at_call 16; obtain ⟨k3, hk3⟩ := HSm.out; (with_reducible refine (same0 k3 _ _ _ _ _ (Kd.C_below HC1.out (HB2.out.trans (HB3.out.mono HB2.out.size))) (Kd.C_below HC2.out HB3.out) hk3).mono ?_); rintro ev w4 ⟨rfl, hd4⟩))
    go_ret
    have h13 := HB1.out.trans ((HB2.out.trans (HB3.out.mono HB2.out.size)).mono HB1.out.size)
    exact ⟨rfl, h13.trans (hd4.below.mono h13.size)⟩
end Go.Proofs.YtinjlpodcabfaaaDoor.Sht
