-- written by a program (gp.py over the kit's print) for this claim
import Derived.Test.YtiklakkkgmilnaaDoorGCx0
import Derived.Test.YtiklakkkgmilnaaDoorGCxf76
namespace Go.Proofs.YtiklakkkgmilnaaDoor.GC
open Go.RowKit Go.Proofs.YtiklakkkgmilnaaDoorW.PrintWords Go.Proofs.YtiklakkkgmilnaaDoorW.PrintLast Go.Proofs.YtiklakkkgmilnaaDoor.Ext Go.Proofs.YtiklakkkgmilnaaDoor.PCal
attribute [local go_sem] max2_int min2_int max_two min_two   -- for this text alone
set_option linter.unusedVariables false
set_option linter.unusedSimpArgs false

/-! ### cal_shape: function 42 -/
def cal_shape.l0 : Nat → ByteArray → Int → List ByteArray → Int → Int → Option (Int × Int)
  | 0, _, _, _, _, _ => none
  | k + 1, x0, x6, x10, x11, x12 => if x12 < x11 then (if 0 ≤ x12 then (if x12 < (x10.length : Int) then ((cal_fits.f k x0 (rdOf ByteArray.empty x10 x12)).bind fun t420102 => (if t420102 = (x0.size : Int) then (if t420102 = ((rdOf ByteArray.empty x10 x12).size : Int) then (some (x12, 0)) else (cal_shape.l0 k x0 (mx x6 t420102) x10 x11 (wrap64 (x12 + 1)))) else (cal_shape.l0 k x0 (mx x6 t420102) x10 x11 (wrap64 (x12 + 1))))) else (none)) else (none)) else (some ((-1), x6))
def cal_shape.f (k : Nat) (a0 : ByteArray) (l1 : List ByteArray) : Option (Int × Int) := cal_shape.l0 k a0 0 l1 (l1.length : Int) 0
theorem cal_shape.mono_l : ∀ k, (∀ y0 y1 y2 y3 y4, LeO (cal_shape.l0 k y0 y1 y2 y3 y4) (cal_shape.l0 (k + 1) y0 y1 y2 y3 y4))
  | 0 => fun _ _ _ _ _ r h => by simp [cal_shape.l0] at h
  | k + 1 => by
    have ih0 := cal_shape.mono_l k
    · intro y0 y1 y2 y3 y4
      unfold cal_shape.l0
      repeat' first
      | (with_reducible exact ih0 _ _ _ _ _)
      | (with_reducible exact cal_fits.mono _ _ _)
      | (with_reducible exact LeO.refl _)
      | (with_reducible exact LeO.none _)
      | (with_reducible refine LeO.ite ?_ ?_)
      | (with_reducible refine LeO.bind ?_ (fun _ => ?_))
      | exact ih0 _ _ _ _ _
      | exact cal_fits.mono _ _ _
      | exact LeO.none _
      | refine LeO.ite ?_ ?_
      | refine LeO.bind ?_ (fun _ => ?_)
theorem cal_shape.mono : ∀ a0 a1 k, LeO (cal_shape.f k a0 a1) (cal_shape.f (k + 1) a0 a1) := by
  intro a0 a1 k
  have ih0 := cal_shape.mono_l k
  unfold cal_shape.f
  repeat' first
      | (with_reducible exact ih0 _ _ _ _ _)
      | (with_reducible exact cal_fits.mono _ _ _)
      | (with_reducible exact LeO.refl _)
      | (with_reducible exact LeO.none _)
      | (with_reducible refine LeO.ite ?_ ?_)
      | (with_reducible refine LeO.bind ?_ (fun _ => ?_))
      | exact ih0 _ _ _ _ _
      | exact cal_fits.mono _ _ _
      | exact LeO.none _
      | refine LeO.ite ?_ ?_
      | refine LeO.bind ?_ (fun _ => ?_)
set_option maxHeartbeats 8000000 in
set_option maxRecDepth 100000 in
theorem cal_shape.calls (k : Nat) (a0 : ByteArray) (A1 : Option Addr) (c1 : Nat) (l1 : List ByteArray) (r1 : Int) (r2 : Int) (w : World) (hr1 : Kd.C Kd.string w A1 l1.length l1) (hc1 : l1.length ≤ c1) (h : cal_shape.f k a0 l1 = some (r1, r2)) :
    Calls Tryd.prog 42 #[.string a0, .slice A1 l1.length c1] w fun e w' => e = .returned (.tuple #[.int .i64 r1, .int .i64 r2]) ∧ Below w.heap.size w w' := by
  have HR1 := Aside0.mk hr1
  have HC1 := Aside0.mk hc1
  clear hr1 hc1
  have HB := Aside0.mk (Below.refl w.heap.size w)
  have H : (cal_shape.l0 k a0 0 l1 (l1.length : Int) 0) = some (r1, r2) := h
  clear h
  have H' := Aside0.mk H
  clear H
  go_enter Tryd.func42, Tryd.ntmps42
  go_wp2
  go_loopg [6, 12] k (fun kq v6 v12 w' => ∃ (x6_1 : Int) (x12_1 : Int), v6 = .int .i64 x6_1 ∧ v12 = .int .i64 x12_1 ∧ Aside0 (cal_shape.l0 kq a0 x6_1 l1 (l1.length : Int) x12_1 = some (r1, r2)) ∧ Aside0 (kq ≤ k) ∧ Aside0 (Below w.heap.size w w'))
  case atStart => exact ⟨(0), (0), (by first | rfl | (simp; done) | (simp [*]; done)), (by first | rfl | (simp; done) | (simp [*]; done)), H', ⟨Nat.le_refl _⟩, ⟨by repeat (first | (with_reducible first | exact HB.out | apply below_alloc | apply pw_below_drewN | apply below_drew1) | exact HB.out)⟩⟩
  case round =>
    clear H'
    try clear c1
    try clear p2
    obtain ⟨x6_1, x12_1, rfl, rfl, HA, HK1, HB⟩ := hrel
    cases gk with
    | zero => exact absurd HA.out (by simp [cal_shape.l0])
    | succ k1 =>
      have H := HA.out
      clear HA
      simp only [cal_shape.l0] at H
      by_cases c3 : x12_1 < (l1.length : Int)
      · rw [if_pos c3] at H
        have c3b0 : decide (x12_1 < (l1.length : Int)) = true := decide_eq_true c3
        clear c3
        by_cases c4 : 0 ≤ x12_1
        · rw [if_pos c4] at H
          have c4b0 : decide (0 ≤ x12_1) = true := decide_eq_true c4
          clear c4
          by_cases c5 : x12_1 < (l1.length : Int)
          · rw [if_pos c5] at H
            have c5b0 : decide (x12_1 < (l1.length : Int)) = true := decide_eq_true c5
            clear c5
            replace H := Option.bind_eq_some_iff.mp H
            obtain ⟨t420102, A60, H⟩ := H
            replace H : (if t420102 = (a0.size : Int) then (if t420102 = ((rdOf ByteArray.empty l1 x12_1).size : Int) then (some (x12_1, 0)) else (cal_shape.l0 k1 a0 (mx x6_1 t420102) l1 (l1.length : Int) (wrap64 (x12_1 + 1)))) else (cal_shape.l0 k1 a0 (mx x6_1 t420102) l1 (l1.length : Int) (wrap64 (x12_1 + 1)))) = some (r1, r2) := H
            have A6 := Aside0.mk A60
            clear A60
            by_cases c7 : t420102 = (a0.size : Int)
            · rw [if_pos c7] at H
              have c7b0 : (t420102 == (a0.size : Int)) = true := beq_iff_eq.mpr c7
              have c7b1 : (t420102 != (a0.size : Int)) = false := bne_eq_false_iff_eq.mpr c7
              clear c7
              by_cases c8 : t420102 = ((rdOf ByteArray.empty l1 x12_1).size : Int)
              · rw [if_pos c8] at H
                have c8b0 : (t420102 == ((rdOf ByteArray.empty l1 x12_1).size : Int)) = true := beq_iff_eq.mpr c8
                have c8b1 : (t420102 != ((rdOf ByteArray.empty l1 x12_1).size : Int)) = false := bne_eq_false_iff_eq.mpr c8
                clear c8
                simp only [Option.some.injEq, Prod.mk.injEq] at H
                obtain ⟨rfl, rfl⟩ := H
                have p420101 : 0 ≤ (x12_1 : Int) := of_decide_eq_true (by first | (with_reducible assumption) | assumption)
                have q420101 : x12_1 < (l1.length : Int) := of_decide_eq_true (by first | (with_reducible assumption) | assumption)
                obtain ⟨ad420101, e420101, hx420101_0⟩ := Kd.at_string HR1.out x12_1 p420101 q420101
                cases e420101
                replace hx420101_0 := (HB.out.cell (World.block_lt_of_cell? w _ hx420101_0)).trans hx420101_0
                replace p420101 := eq_true p420101
                replace q420101 := eq_true q420101
                go_wp2_with (first | ((with_reducible refine gate_callee (f := 76) rfl ?_); refine goesL_ (some 19) rfl rfl Tryd.func76 (by kernel_rfl) rfl #[.string a0, .string (rdOf ByteArray.empty l1 x12_1)] rfl (by (try simp only [List.map_toArray, List.map_cons, List.map_nil]); first | done | rfl | (simp only [List.length_drop, List.length_take]; rfl)) ?_; (with_reducible refine (cal_fits.calls k1 a0 (rdOf ByteArray.empty l1 x12_1) t420102 _ A6.out).mono ?_); rintro e w' ⟨rfl, ⟨nd, rfl⟩⟩; refine ⟨_, rfl, ?_⟩))
                go_ret2
                exact ⟨by first | rfl | (simp [errW_none, errW_some] <;> rfl) | (simp [*, errW_none, errW_some] <;> rfl), by repeat (first | (with_reducible first | exact HB.out | apply below_alloc | apply pw_below_drewN | apply below_drew1) | exact HB.out)⟩
              · rw [if_neg c8] at H
                have c8b0 : (t420102 == ((rdOf ByteArray.empty l1 x12_1).size : Int)) = false := beq_eq_false_iff_ne.mpr c8
                have c8b1 : (t420102 != ((rdOf ByteArray.empty l1 x12_1).size : Int)) = true := bne_iff_ne.mpr c8
                obtain ⟨ji9, hji9⟩ : ∃ j_ : Int, (mx x6_1 t420102) = j_ := ⟨_, rfl⟩
                replace H : (cal_shape.l0 k1 a0 ji9 l1 (l1.length : Int) (wrap64 (x12_1 + 1))) = some (r1, r2) := by first | (rw [hji9] at H; exact H) | (simp only [hji9] at H ⊢; exact H)
                (try rw [hji9] at A6)
                have hji9_ : (if x6_1 < t420102 then t420102 else x6_1) = ji9 := hji9
                have H' := Aside0.mk H
                clear H
                have p420101 : 0 ≤ (x12_1 : Int) := of_decide_eq_true (by first | (with_reducible assumption) | assumption)
                have q420101 : x12_1 < (l1.length : Int) := of_decide_eq_true (by first | (with_reducible assumption) | assumption)
                obtain ⟨ad420101, e420101, hx420101_0⟩ := Kd.at_string HR1.out x12_1 p420101 q420101
                cases e420101
                replace hx420101_0 := (HB.out.cell (World.block_lt_of_cell? w _ hx420101_0)).trans hx420101_0
                replace p420101 := eq_true p420101
                replace q420101 := eq_true q420101
                go_wp2_with (first | ((with_reducible refine gate_callee (f := 76) rfl ?_); refine goesL_ (some 19) rfl rfl Tryd.func76 (by kernel_rfl) rfl #[.string a0, .string (rdOf ByteArray.empty l1 x12_1)] rfl (by (try simp only [List.map_toArray, List.map_cons, List.map_nil]); first | done | rfl | (simp only [List.length_drop, List.length_take]; rfl)) ?_; (with_reducible refine (cal_fits.calls k1 a0 (rdOf ByteArray.empty l1 x12_1) t420102 _ A6.out).mono ?_); rintro e w' ⟨rfl, ⟨nd, rfl⟩⟩; refine ⟨_, rfl, ?_⟩))
                go_roundg k1
                case measure => have := HK1.out; omega
                case rel => exact ⟨(ji9), (wrap64 (x12_1 + 1)), (by first | rfl | (simp; done) | (simp only [← hji9] <;> (first | rfl | simp)) | (simp [*]; done)), (by first | rfl | (simp; done) | (simp [*]; done)), H', ⟨by have := HK1.out; omega⟩, ⟨by repeat (first | (with_reducible first | exact HB.out | apply below_alloc | apply pw_below_drewN | apply below_drew1) | exact HB.out)⟩⟩
            · rw [if_neg c7] at H
              have c7b0 : (t420102 == (a0.size : Int)) = false := beq_eq_false_iff_ne.mpr c7
              have c7b1 : (t420102 != (a0.size : Int)) = true := bne_iff_ne.mpr c7
              obtain ⟨ji10, hji10⟩ : ∃ j_ : Int, (mx x6_1 t420102) = j_ := ⟨_, rfl⟩
              replace H : (cal_shape.l0 k1 a0 ji10 l1 (l1.length : Int) (wrap64 (x12_1 + 1))) = some (r1, r2) := by first | (rw [hji10] at H; exact H) | (simp only [hji10] at H ⊢; exact H)
              (try rw [hji10] at A6)
              have hji10_ : (if x6_1 < t420102 then t420102 else x6_1) = ji10 := hji10
              have H' := Aside0.mk H
              clear H
              have p420101 : 0 ≤ (x12_1 : Int) := of_decide_eq_true (by first | (with_reducible assumption) | assumption)
              have q420101 : x12_1 < (l1.length : Int) := of_decide_eq_true (by first | (with_reducible assumption) | assumption)
              obtain ⟨ad420101, e420101, hx420101_0⟩ := Kd.at_string HR1.out x12_1 p420101 q420101
              cases e420101
              replace hx420101_0 := (HB.out.cell (World.block_lt_of_cell? w _ hx420101_0)).trans hx420101_0
              replace p420101 := eq_true p420101
              replace q420101 := eq_true q420101
              go_wp2_with (first | ((with_reducible refine gate_callee (f := 76) rfl ?_); refine goesL_ (some 19) rfl rfl Tryd.func76 (by kernel_rfl) rfl #[.string a0, .string (rdOf ByteArray.empty l1 x12_1)] rfl (by (try simp only [List.map_toArray, List.map_cons, List.map_nil]); first | done | rfl | (simp only [List.length_drop, List.length_take]; rfl)) ?_; (with_reducible refine (cal_fits.calls k1 a0 (rdOf ByteArray.empty l1 x12_1) t420102 _ A6.out).mono ?_); rintro e w' ⟨rfl, ⟨nd, rfl⟩⟩; refine ⟨_, rfl, ?_⟩))
              go_roundg k1
              case measure => have := HK1.out; omega
              case rel => exact ⟨(ji10), (wrap64 (x12_1 + 1)), (by first | rfl | (simp; done) | (simp only [← hji10] <;> (first | rfl | simp)) | (simp [*]; done)), (by first | rfl | (simp; done) | (simp [*]; done)), H', ⟨by have := HK1.out; omega⟩, ⟨by repeat (first | (with_reducible first | exact HB.out | apply below_alloc | apply pw_below_drewN | apply below_drew1) | exact HB.out)⟩⟩
          · rw [if_neg c5] at H
            exact absurd H (by simp)
        · rw [if_neg c4] at H
          exact absurd H (by simp)
      · rw [if_neg c3] at H
        have c3b0 : decide (x12_1 < (l1.length : Int)) = false := decide_eq_false c3
        clear c3
        simp only [Option.some.injEq, Prod.mk.injEq] at H
        obtain ⟨rfl, rfl⟩ := H
        go_wp2
        go_ret2
        exact ⟨by first | rfl | (simp [errW_none, errW_some] <;> rfl) | (simp [*, errW_none, errW_some] <;> rfl), by repeat (first | (with_reducible first | exact HB.out | apply below_alloc | apply pw_below_drewN | apply below_drew1) | exact HB.out)⟩

end Go.Proofs.YtiklakkkgmilnaaDoor.GC
