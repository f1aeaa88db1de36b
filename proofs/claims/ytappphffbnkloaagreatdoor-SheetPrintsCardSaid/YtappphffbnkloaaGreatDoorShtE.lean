/- The reader's states, walked: stop, plain, quoted. -/
import Derived.Test.YtappphffbnkloaaGreatDoorShtD
set_option linter.unusedVariables false
set_option linter.unusedSimpArgs false
namespace Go.Proofs.YtappphffbnkloaaGreatDoor.Sht
open Go Go.RowKit Go.Joins
attribute [local go_sem ↓] Go.wp_at_zero Go.wp_at_succ
variable {A : Nat → Addr} {W0 W : World} {b : Nat} {s : RS}
theorem okB_eq (x : UInt8) : okB x = ((32 ≤ x.toNat && x.toNat != 127) || x.toNat == 9 || x.toNat == 10 || x.toNat == 13) := by
  unfold okB
  have e : ∀ k : UInt8, (x == k) = (x.toNat == k.toNat) := fun k => by
    rw [Bool.eq_iff_iff, beq_iff_eq, beq_iff_eq]
    exact ⟨fun h => by rw [h], fun h => UInt8.toNat_inj.1 h⟩
  have e1 : decide (32 ≤ x) = decide (32 ≤ x.toNat) := by rw [Bool.eq_iff_iff, decide_eq_true_iff, decide_eq_true_iff, UInt8.le_iff_toNat_le]; exact Iff.rfl
  rw [e1, bne, e 127, e 9, e 10, e 13]
  rfl
set_option maxHeartbeats 1000000 in
theorem allowed_r (x : UInt8) (w : World) : Calls Tryz.prog 99 #[.int .u8 (x.toNat : Int)] w fun e w' => e = .returned (.bool (okB x)) ∧ w = w' := by
  rw [okB_eq]
  have hn := x.toNat_lt
  generalize x.toNat = n at hn
  by_cases h1 : 32 ≤ n
  · have g1 : decide (32 ≤ (n : Int)) = true := by simp; omega
    by_cases h2 : n = 127
    · subst h2
      go_enter Tryz.func99, Tryz.ntmps99
      go_wp2
      go_ret
      exact ⟨rfl, rfl⟩
    · have g2 : ((n : Int) != 127) = true := by simp; omega
      go_enter Tryz.func99, Tryz.ntmps99
      go_wp2
      go_ret
      refine ⟨?_, rfl⟩
      have : (32 ≤ n && n != 127) = true := by simp; omega
      rw [this]; rfl
  · have g1 : decide (32 ≤ (n : Int)) = false := by simp; omega
    have e1 : (decide (32 ≤ n) && n != 127) = false := by simp; omega
    rw [e1]
    by_cases h9 : n = 9
    · subst h9
      go_enter Tryz.func99, Tryz.ntmps99
      go_wp2
      go_ret
      exact ⟨rfl, rfl⟩
    · have g9 : ((n : Int) == 9) = false := by simp; omega
      have e9 : (n == 9) = false := by simp; omega
      rw [e9]
      by_cases h10 : n = 10
      · subst h10
        go_enter Tryz.func99, Tryz.ntmps99
        go_wp2
        go_ret
        exact ⟨rfl, rfl⟩
      · have g10 : ((n : Int) == 10) = false := by simp; omega
        have e10 : (n == 10) = false := by simp; omega
        rw [e10]
        by_cases h13 : n = 13
        · subst h13
          go_enter Tryz.func99, Tryz.ntmps99
          go_wp2
          go_ret
          exact ⟨rfl, rfl⟩
        · have g13 : ((n : Int) == 13) = false := by simp; omega
          have e13 : (n == 13) = false := by simp; omega
          rw [e13]
          go_enter Tryz.func99, Tryz.ntmps99
          go_wp2
          go_ret
          exact ⟨rfl, rfl⟩
theorem byte_eq {x : UInt8} {k : UInt8} (h : x = k) : ((x.toNat : Int) == (k.toNat : Int)) = true := by simp [h]
theorem byte_ne {x : UInt8} {k : UInt8} (h : x ≠ k) : ((x.toNat : Int) == (k.toNat : Int)) = false := by
  simp only [beq_eq_false_iff_ne, ne_eq]
  intro e
  exact h (UInt8.toNat_inj.1 (by omega))
theorem turn_fn (m : Md) (F G : FuncId) (h1 : nx b m = .func (.func F) #[PT b] #[]) (h2 : ov b m = .func (.func G) #[PT b] #[]) (w : World) (s : RS) (hR : R A W0 w b s) : Does A W0 w b (s.turn m) 34 #[PT b, .func (.func F) #[PT b] #[], .func (.func G) #[PT b] #[]] := by
  rw [← h1, ← h2]; exact turn_r m hR
/-- what a call of fail with the place of the next byte wants to read -/
theorem R.atCells (hF : SF W0 A) (h : R A W0 W b s) (e : Nat) (he : coded e) : W.cell? ⟨b, 2, none⟩ = some (I s.line) ∧ W.cell? ⟨b, 3, none⟩ = some (I s.col) ∧ W.cell? ⟨b, 5, none⟩ = some (I s.ml) ∧ W.cell? ⟨b, 6, none⟩ = some (I s.mc) ∧ W.cell? ⟨gl e, 0, none⟩ = some (errV A e) := by
  obtain ⟨_, _, _, _, _, h⟩ := h
  obtain ⟨_, _, c2, c3, _, c5, c6, _⟩ := h.cells
  exact ⟨c2, c3, c5, c6, h.gl hF e he⟩
theorem R.drew (h : R A W0 W b s) : R A W0 W.drew b s := by
  obtain ⟨_, _, _, _, _, h⟩ := h
  exact R.mk h.drew
theorem cod {e : Nat} (h : (1 ≤ e ∧ e ≤ 9) ∨ e = 20) : coded e := h
set_option maxHeartbeats 2000000 in
set_option maxRecDepth 100000 in
theorem quoted_r (hF : SF W0 A) (x : UInt8) {N : Nat} (hB : s.Bd N) (hN : N ≤ 1099511627776) (hR : R A W0 W b s) : Does A W0 W b (s.quoted x) 86 #[PT b, .int .u8 (x.toNat : Int)] := by
  have HA := Lib.hid (allowed_r x)
  have HT := Lib.hid (turn_fn .closed _ _ rfl rfl W s hR)
  have HP := Lib.hid (put_r hF x hB hN hR)
  obtain ⟨c2, c3, _, _, gE⟩ := hR.atCells hF 4 (cod (by omega))
  replace gE : W.cell? ⟨7, 0, none⟩ = some (errV A 4) := gE
  have HL := Lib.hid (fail_r s.line s.col 4 (cod (by omega)) hR.drew)
  clear hR hB
  by_cases hx : x = 34
  · have q : ((x.toNat : Int) == 34) = true := byte_eq hx
    have HX := Lib.hid hx
    clear hx
    go_enter Tryz.func86, Tryz.ntmps86
    go_wp2_with (go_at_call 34; (with_reducible refine HT.out.mono ?_); rintro e w1 ⟨rfl, hR1, hF1⟩)
    go_end0
    refine ⟨rfl, ?_, hF1⟩
    rw [RS.quoted, if_pos HX.out]
    exact hR1
  · have q : ((x.toNat : Int) == 34) = false := byte_ne hx
    have HX := Lib.hid hx
    clear hx
    by_cases ha : okB x = false
    · rw [ha] at HA
      have HK := Lib.hid ha
      clear ha
      go_enter Tryz.func86, Tryz.ntmps86
      go_wp2_with (go_at_call 99; (with_reducible refine (HA.out _).mono ?_); rintro e w1 ⟨rfl, rfl⟩)
      go_still_tail 6, (by kernel_rfl)
      change wpList _ _ _ _ _ W.drew
      go_wp2_with (go_at_call 45; (with_reducible refine HL.out.mono ?_); rintro e w1 ⟨rfl, hR1, hF1⟩)
      go_end0
      refine ⟨rfl, ?_, (Fr.refl b _).drew.trans hF1⟩
      rw [RS.quoted, if_neg HX.out, if_pos HK.out]
      exact hR1
    · have ha' : okB x = true := by simpa using ha
      rw [ha'] at HA
      have HK := Lib.hid ha
      clear ha ha'
      go_enter Tryz.func86, Tryz.ntmps86
      go_wp2_with (first | (go_at_call 99; (with_reducible refine (HA.out _).mono ?_); rintro e w1 ⟨rfl, rfl⟩) | (go_at_call 100; (with_reducible refine HP.out.mono ?_); rintro e w1 ⟨rfl, hR1, hF1⟩))
      go_end0
      refine ⟨rfl, ?_, hF1⟩
      rw [RS.quoted, if_neg HX.out, if_neg HK.out]
      exact hR1
end Go.Proofs.YtappphffbnkloaaGreatDoor.Sht
