/- SheetNil, walked. -/
import Derived.Test.YtappphffbnkloaaGreatDoorShtLv
import Derived.Test.YtappphffbnkloaaGreatDoorShtIs
set_option linter.unusedVariables false
set_option linter.unusedSimpArgs false
namespace Go.Proofs.YtappphffbnkloaaGreatDoor.Sht
open Go Go.RowKit
attribute [local go_sem ↓] Go.wp_at_zero Go.wp_at_succ
theorem is_sent (A : Nat → Addr) (e c : Nat) (w : World) (hS : SG w A) (h1 : 1 ≤ e) (h2 : e ≤ 20) (h3 : 1 ≤ c) (h4 : c ≤ 20) :
    Calls Tryz.prog 27 #[errV A e, errV A c] w fun ev w' => ev = .returned (.bool (decide (e = c))) ∧ w = w' := by
  by_cases h : e = c
  · subst h
    rw [decide_eq_true rfl]
    exact (Se.is_same (A e) w).mono fun _ _ q => ⟨q.1, q.2.symm⟩
  · rw [decide_eq_false h]
    obtain ⟨ca, ta, ha⟩ := hS.hb e h1 h2
    obtain ⟨cb, tb, hb⟩ := hS.hb c h3 h4
    exact (Se.is_other (A e) (A c) ca cb ta tb w (hS.hn e c h1 h2 h3 h4 h) ha hb).mono fun _ _ q => ⟨q.1, q.2.symm⟩
/-- a variable is one of the variables, and no other -/
theorem kinds_s (A : Nat → Addr) (e : Nat) (w : World) (hS : SG w A) (h1 : 1 ≤ e) (h2 : e ≤ 20) :
    Calls Tryz.prog 33 #[errV A e] w fun ev w' => ev = .returned (.int .i64 1) ∧ Below w.heap.size w w' := by
  have HS := Lib.hid hS
  clear hS
  go_enter Tryz.func33, Tryz.ntmps33
  go_wp2
  go_loopw [3, 4] (fun n c wr => ∃ k : Nat, 1 ≤ k ∧ k ≤ 21 ∧ c = .int .i64 (k : Int) ∧ n = .int .i64 (if e < k then 1 else 0) ∧ Hid (Below w.heap.size w wr)) (fun _ c _ => (21 - intOf c).toNat)
  case atStart => exact ⟨1, by omega, by omega, rfl, by rw [if_neg (by omega)], Lib.hid (Below.refl _ _)⟩
  case round =>
    obtain ⟨k, k1, k2, rfl, rfl, HB⟩ := hrel
    by_cases hk : k ≤ 20
    · have HSr := Lib.hid (HS.out.below HB.out)
      have HV := Lib.hid (variable_r k k1 hk A wr HSr.out)
      have HI := Lib.hid (fun w1 (hb : Below wr.heap.size wr w1) => is_sent A e k w1 (HSr.out.below hb) h1 h2 k1 hk)
      by_cases he : e = k
      · rw [decide_eq_true he] at HI
        have HE := Lib.hid he
        clear he
        go_wp2_with (first
          | (go_at_call 32; (with_reducible refine HV.out.mono ?_); rintro ev w1 ⟨rfl, hb1⟩; have HB1 := Lib.hid hb1; clear hb1)
          | (go_at_call 27; (with_reducible refine (HI.out _ HB1.out).mono ?_); rintro ev w2 ⟨rfl, rfl⟩))
        go_roundw
        case rel => exact ⟨k + 1, by omega, by omega, by go_num, by rw [if_neg (show ¬ e < k by have := HE.out; omega), if_pos (show e < k + 1 by have := HE.out; omega)]; rfl, Lib.hid (HB.out.trans (HB1.out.mono HB.out.size))⟩
        case measure => simp [intOf]; omega
      · rw [decide_eq_false he] at HI
        have HE := Lib.hid he
        clear he
        go_wp2_with (first
          | (go_at_call 32; (with_reducible refine HV.out.mono ?_); rintro ev w1 ⟨rfl, hb1⟩; have HB1 := Lib.hid hb1; clear hb1)
          | (go_at_call 27; (with_reducible refine (HI.out _ HB1.out).mono ?_); rintro ev w2 ⟨rfl, rfl⟩))
        go_roundw
        case rel => exact ⟨k + 1, by omega, by omega, by go_num, by by_cases q : e < k; rw [if_pos q, if_pos (show e < k + 1 by omega)]; rw [if_neg q, if_neg (show ¬ e < k + 1 by have := HE.out; omega)], Lib.hid (HB.out.trans (HB1.out.mono HB.out.size))⟩
        case measure => simp [intOf]; omega
    · have hk' : e < k := by omega
      rw [if_pos hk']
      clear hk'
      go_wp2
      go_ret
      exact ⟨rfl, HB.out⟩
/-! ### none -/
theorem nilFE (w : World) : Calls Tryz.prog 28 #[.pointer none] w fun e w' => e = .returned (.string ⟨#[]⟩) ∧ w = w' := by
  go_enter Tryz.func28, Tryz.ntmps28
  go_wp2
  go_ret
  exact ⟨rfl, rfl⟩
theorem nilFU (w : World) : Calls Tryz.prog 29 #[.pointer none] w fun e w' => e = .returned .nilIface ∧ w = w' := by
  go_enter Tryz.func29, Tryz.ntmps29
  go_wp2
  go_ret
  exact ⟨rfl, rfl⟩
theorem nilWE (w : World) : Calls Tryz.prog 30 #[.pointer none] w fun e w' => e = .returned (.string ⟨#[]⟩) ∧ w = w' := by
  go_enter Tryz.func30, Tryz.ntmps30
  go_wp2
  go_ret
  exact ⟨rfl, rfl⟩
theorem nilWU (w : World) : Calls Tryz.prog 31 #[.pointer none] w fun e w' => e = .returned .nilIface ∧ w = w' := by
  go_enter Tryz.func31, Tryz.ntmps31
  go_wp2
  go_ret
  exact ⟨rfl, rfl⟩
theorem nilFeed (v : Value) (w : World) : Calls Tryz.prog 15 #[.pointer none, v] w fun e w' => e = .returned (.tuple #[.slice none 0 0, .nilIface]) ∧ w = w' := by
  go_enter Tryz.func15, Tryz.ntmps15
  go_wp2
  go_ret2
  exact ⟨rfl, rfl⟩
theorem nilClose (w : World) : Calls Tryz.prog 9 #[.pointer none] w fun e w' => e = .returned (.tuple #[.slice none 0 0, .nilIface]) ∧ w = w' := by
  go_enter Tryz.func9, Tryz.ntmps9
  go_wp2
  go_ret2
  exact ⟨rfl, rfl⟩
theorem nil_print : printO [] = ([], none) := by kernel_rfl
theorem nil_parse : parseO [] = ([], none) := by kernel_rfl
theorem rowsIn_nil (w : World) : RowsIn w (.slice none 0 0) [] := ⟨none, 0, rfl, by decide, fun i h => absurd h (by simp)⟩
set_option maxHeartbeats 8000000 in
set_option maxRecDepth 100000 in
theorem sheetNil_calls {A : Nat → Addr} (w : World) (hS : SG w A) (hE : ET w) (hM : ML w) : Calls Tryz.prog 6 #[] w fun e w' => e = .returned (.bool true) ∧ Below w.heap.size w w' := by
  have HLv : Hid (∀ w1, Below w.heap.size w w1 → Calls Tryz.prog 23 #[] w1 fun e w' => e = .returned (.bool true) ∧ Below w1.heap.size w1 w') := Lib.hid fun w1 k => lives_r w1 (hS.sf.below k) (hE.below k) (hM.below k hM.lt)
  have HP : Hid (∀ w1, Below w.heap.size w w1 → Calls Tryz.prog 24 #[.string ⟨#[]⟩] w1 (Parsed A w1 [])) := Lib.hid fun w1 k => parse_r w1 (hS.sf.below k) (hE.below k) ⟨#[]⟩ (by decide)
  have HPr : Hid (∀ w1, Below w.heap.size w w1 → Calls Tryz.prog 20 #[.slice none 0 0] w1 (Prt A w1 (printO []))) := Lib.hid fun w1 k => print_r A [] _ w1 (hS.sf.below k) (rowsIn_nil w1) (hM.below k hM.lt)
  have HS := Lib.hid hS
  have kc := fun (w : World) (C : Array Value) (n c : Nat) => Lib.run_convert_bytes_const (P := Tryz.prog) w 37 5 C n c Tryz.underlying37 Tryz.underlying5
  clear hS hE hM
  go_enter Tryz.func6, Tryz.ntmps6
  go_wp2_with (first
    | (go_at_call 28; (with_reducible refine (nilFE _).mono ?_); rintro e w1 ⟨rfl, rfl⟩)
    | (go_at_call 29; (with_reducible refine (nilFU _).mono ?_); rintro e w1 ⟨rfl, rfl⟩)
    | (go_at_call 30; (with_reducible refine (nilWE _).mono ?_); rintro e w1 ⟨rfl, rfl⟩)
    | (go_at_call 31; (with_reducible refine (nilWU _).mono ?_); rintro e w1 ⟨rfl, rfl⟩)
    | (go_at_call 23; (with_reducible refine (HLv.out _ (Below.refl _ _)).mono ?_); rintro e w1 ⟨rfl, hb⟩; have HB1 := Lib.hid hb; clear hb)
    | (go_at_call 15; (with_reducible refine (nilFeed _ _).mono ?_); rintro e w2 ⟨rfl, rfl⟩)
    | (go_at_call 9; (with_reducible refine (nilClose _).mono ?_); rintro e w2 ⟨rfl, rfl⟩))
  go_loopw [8] (fun i wr => ∃ k : Nat, 1 ≤ k ∧ k ≤ 21 ∧ i = .int .i64 (k : Int) ∧ Hid (Below w.heap.size w wr)) (fun i _ => (21 - intOf i).toNat)
  case atStart => exact ⟨1, by omega, by omega, rfl, Lib.hid (HB1.out.alloc HB1.out.size _)⟩
  case round =>
    obtain ⟨k, k1, k2, rfl, HB⟩ := hrel
    by_cases hk : k ≤ 20
    · have HV : Hid (∀ w1, Below w.heap.size w w1 → Calls Tryz.prog 32 #[.int .i64 (k : Int)] w1 fun e w' => e = .returned (errV A k) ∧ Below w1.heap.size w1 w') := Lib.hid fun w1 b => variable_r k k1 hk A w1 (HS.out.below b)
      have HK : Hid (∀ w1, Below w.heap.size w w1 → Calls Tryz.prog 33 #[errV A k] w1 fun ev w' => ev = .returned (.int .i64 1) ∧ Below w1.heap.size w1 w') := Lib.hid fun w1 b => kinds_s A k w1 (HS.out.below b) k1 hk
      go_wp2_with (first
        | (go_at_call 32; (with_reducible refine (HV.out _ HB.out).mono ?_); rintro e w2 ⟨rfl, hb⟩; have HB2 := Lib.hid (HB.out.trans (hb.mono HB.out.size)); clear hb)
        | (go_at_call 32; (with_reducible refine (HV.out _ HB2.out).mono ?_); rintro e w3 ⟨rfl, hb⟩; have HB3 := Lib.hid (HB2.out.trans (hb.mono HB2.out.size)); clear hb)
        | (go_at_call 33; (with_reducible refine (HK.out _ HB3.out).mono ?_); rintro e w4 ⟨rfl, hb⟩; have HB4 := Lib.hid (HB3.out.trans (hb.mono HB3.out.size)); clear hb))
      go_roundw
      case rel => exact ⟨k + 1, by omega, by omega, by go_num, HB4⟩
      case measure => simp [intOf]; omega
    · obtain rfl : k = 21 := by omega
      go_wp2_with (first
        | (go_at_call 20; (with_reducible refine (HPr.out _ HB.out).mono ?_); rintro e w2 ⟨ve, rfl, hf, hb⟩; rw [nil_print] at hf; obtain rfl : ve = .nilIface := hf; have HB2 := Lib.hid (HB.out.trans (hb.mono HB.out.size)); clear hb)
        | (go_at_call 24; (with_reducible refine (HP.out _ HB2.out).mono ?_); rintro e w3 ⟨vl, ve, rfl, hg, hf, hb⟩; rw [nil_parse] at hg hf; obtain rfl : ve = .nilIface := hf; obtain ⟨x, c, h1, _⟩ := rowsIn_good hg; obtain rfl : vl = .slice x 0 c := h1; have HB3 := Lib.hid (HB2.out.trans (hb.mono HB2.out.size)); clear hg hb))
      go_ret
      exact ⟨rfl, HB3.out⟩
end Go.Proofs.YtappphffbnkloaaGreatDoor.Sht
