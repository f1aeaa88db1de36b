-- written by a program (gp.py over the kit's print) for this claim
import Derived.Test.YtiklakkkgmilnaaDoorGCx0
import Derived.Test.YtiklakkkgmilnaaDoorGCxf42
import Derived.Test.YtiklakkkgmilnaaDoorGCxf43
namespace Go.Proofs.YtiklakkkgmilnaaDoor.GC
open Go.RowKit Go.Proofs.YtiklakkkgmilnaaDoorW.PrintWords Go.Proofs.YtiklakkkgmilnaaDoorW.PrintLast Go.Proofs.YtiklakkkgmilnaaDoor.Ext Go.Proofs.YtiklakkkgmilnaaDoor.PCal
attribute [local go_sem] max2_int min2_int max_two min_two   -- for this text alone
set_option linter.unusedVariables false
set_option linter.unusedSimpArgs false

/-! ### cal_zone: function 65 -/
mutual
def cal_zone.j0 : Nat → ByteArray → ByteArray → Int → Option (Int × Bool × Int)
  | 0, _, _, _ => none
  | k + 1, x0, x7, x8 => (cal_shape.f k x0 (([(⟨#[90]⟩ : ByteArray), (⟨#[115, 100, 100]⟩ : ByteArray), x7] : List ByteArray))).bind fun bt650104 => (if bt650104.1 < 0 then (some (0, false, bt650104.2)) else (if bt650104.1 = 0 then (some (0, true, 0)) else (if 1 ≤ 3 then (if 3 ≤ (x0.size : Int) then ((cal_num.f k (x0.extract 1 3)).bind fun t650106 => (if bt650104.1 = 2 then (if 0 ≤ x8 then (if x8 ≤ (x0.size : Int) then ((cal_num.f k (x0.extract (x8 : Int).toNat x0.size)).bind fun t650107 => (cal_zone.j1 k x0 x8 t650106 t650107)) else (none)) else (none)) else (cal_zone.j1 k x0 x8 t650106 0))) else (none)) else (none))))
def cal_zone.j1 : Nat → ByteArray → Int → Int → Int → Option (Int × Bool × Int)
  | 0, _, _, _, _ => none
  | k + 1, x0, x8, x11, x12 => if x11 > 23 then (some (0, false, 1)) else (if x12 > 59 then (some (0, false, x8)) else (if 0 < (x0.size : Int) then (if (bt x0 0) = 43 then (some (wrap64 ((wrap64 (60 * x11)) + x12), true, 0)) else (if (wrap64 ((wrap64 (60 * x11)) + x12)) = 0 then (some (0, false, 0)) else (some (wrap64 (-(wrap64 ((wrap64 (60 * x11)) + x12))), true, 0)))) else (none)))
end
def cal_zone.f (k : Nat) (a0 : ByteArray) (a1 : Bool) : Option (Int × Bool × Int) := if a1 = true then (cal_zone.j0 k a0 (⟨#[115, 100, 100, 58, 100, 100]⟩ : ByteArray) 4) else (cal_zone.j0 k a0 (⟨#[115, 100, 100, 100, 100]⟩ : ByteArray) 3)
theorem cal_zone.mono_l : ∀ k, (∀ y0 y1 y2, LeO (cal_zone.j0 k y0 y1 y2) (cal_zone.j0 (k + 1) y0 y1 y2)) ∧ (∀ y0 y1 y2 y3, LeO (cal_zone.j1 k y0 y1 y2 y3) (cal_zone.j1 (k + 1) y0 y1 y2 y3))
  | 0 => ⟨fun _ _ _ r h => by simp [cal_zone.j0] at h, fun _ _ _ _ r h => by simp [cal_zone.j1] at h⟩
  | k + 1 => by
    obtain ⟨ih0, ih1⟩ := cal_zone.mono_l k
    refine ⟨?_, ?_⟩
    · intro y0 y1 y2
      unfold cal_zone.j0
      repeat' first
      | (with_reducible exact ih0 _ _ _)
      | (with_reducible exact ih1 _ _ _ _)
      | (with_reducible exact cal_num.mono _ _)
      | (with_reducible exact cal_shape.mono _ _ _)
      | (with_reducible exact LeO.refl _)
      | (with_reducible exact LeO.none _)
      | (with_reducible refine LeO.ite ?_ ?_)
      | (with_reducible refine LeO.bind ?_ (fun _ => ?_))
      | exact ih0 _ _ _
      | exact ih1 _ _ _ _
      | exact cal_num.mono _ _
      | exact cal_shape.mono _ _ _
      | exact LeO.none _
      | refine LeO.ite ?_ ?_
      | refine LeO.bind ?_ (fun _ => ?_)
    · intro y0 y1 y2 y3
      unfold cal_zone.j1
      repeat' first
      | (with_reducible exact ih0 _ _ _)
      | (with_reducible exact ih1 _ _ _ _)
      | (with_reducible exact cal_num.mono _ _)
      | (with_reducible exact cal_shape.mono _ _ _)
      | (with_reducible exact LeO.refl _)
      | (with_reducible exact LeO.none _)
      | (with_reducible refine LeO.ite ?_ ?_)
      | (with_reducible refine LeO.bind ?_ (fun _ => ?_))
      | exact ih0 _ _ _
      | exact ih1 _ _ _ _
      | exact cal_num.mono _ _
      | exact cal_shape.mono _ _ _
      | exact LeO.none _
      | refine LeO.ite ?_ ?_
      | refine LeO.bind ?_ (fun _ => ?_)
theorem cal_zone.mono : ∀ a0 a1 k, LeO (cal_zone.f k a0 a1) (cal_zone.f (k + 1) a0 a1) := by
  intro a0 a1 k
  obtain ⟨ih0, ih1⟩ := cal_zone.mono_l k
  unfold cal_zone.f
  repeat' first
      | (with_reducible exact ih0 _ _ _)
      | (with_reducible exact ih1 _ _ _ _)
      | (with_reducible exact cal_num.mono _ _)
      | (with_reducible exact cal_shape.mono _ _ _)
      | (with_reducible exact LeO.refl _)
      | (with_reducible exact LeO.none _)
      | (with_reducible refine LeO.ite ?_ ?_)
      | (with_reducible refine LeO.bind ?_ (fun _ => ?_))
      | exact ih0 _ _ _
      | exact ih1 _ _ _ _
      | exact cal_num.mono _ _
      | exact cal_shape.mono _ _ _
      | exact LeO.none _
      | refine LeO.ite ?_ ?_
      | refine LeO.bind ?_ (fun _ => ?_)
set_option maxHeartbeats 8000000 in
set_option maxRecDepth 100000 in
theorem cal_zone.calls (k : Nat) (a0 : ByteArray) (a1 : Bool) (r1 : Int) (r2 : Bool) (r3 : Int) (w : World) (h : cal_zone.f k a0 a1 = some (r1, r2, r3)) :
    Calls Tryd.prog 65 #[.string a0, .bool a1] w fun e w' => e = .returned (.tuple #[.int .i64 r1, .bool r2, .int .i64 r3]) ∧ Below w.heap.size w w' := by
  have HB := Aside0.mk (Below.refl w.heap.size w)
  have H : (if a1 = true then (cal_zone.j0 k a0 (⟨#[115, 100, 100, 58, 100, 100]⟩ : ByteArray) 4) else (cal_zone.j0 k a0 (⟨#[115, 100, 100, 100, 100]⟩ : ByteArray) 3)) = some (r1, r2, r3) := h
  clear h
  have HC3 := Aside0.mk H
  clear H
  go_enter Tryd.func65, Tryd.ntmps65
  go_upto_if 14 with (fail)
  go_cut [7, 8] (fun v7 v8 wc => ∃ (kq : Nat) (x7_2 : ByteArray) (x8_2 : Int), v7 = .string x7_2 ∧ v8 = .int .i64 x8_2 ∧ Aside0 (cal_zone.j0 kq a0 x7_2 x8_2 = some (r1, r2, r3)) ∧ Aside0 (kq ≤ k) ∧ Aside0 (Below w.heap.size w wc))
  case first =>
    have H := HC3.out
    clear HC3
    by_cases c4 : a1 = true
    · subst c4
      have H1 : (cal_zone.j0 k a0 (⟨#[115, 100, 100, 58, 100, 100]⟩ : ByteArray) 4) = some (r1, r2, r3) := by rw [if_pos rfl] at H; exact H
      clear H
      have H := H1
      clear H1
      have H' := Aside0.mk H
      clear H
      go_wp2
      go_meet
      case rel => exact ⟨_, ((⟨#[115, 100, 100, 58, 100, 100]⟩ : ByteArray)), (4), (by first | rfl | (simp; done) | (simp [*]; done)), (by first | rfl | (simp; done) | (simp [*]; done)), H', ⟨by first | omega | exact Nat.le_refl _⟩, ⟨by repeat (first | (with_reducible first | exact HB.out | apply below_alloc | apply pw_below_drewN | apply below_drew1) | exact HB.out)⟩⟩
    · replace c4 := Bool.eq_false_iff.mpr c4
      subst c4
      have H1 : (cal_zone.j0 k a0 (⟨#[115, 100, 100, 100, 100]⟩ : ByteArray) 3) = some (r1, r2, r3) := by rw [if_neg (show ¬ (false = true) by decide)] at H; exact H
      clear H
      have H := H1
      clear H1
      have H' := Aside0.mk H
      clear H
      go_wp2
      go_meet
      case rel => exact ⟨_, ((⟨#[115, 100, 100, 100, 100]⟩ : ByteArray)), (3), (by first | rfl | (simp; done) | (simp [*]; done)), (by first | rfl | (simp; done) | (simp [*]; done)), H', ⟨by first | omega | exact Nat.le_refl _⟩, ⟨by repeat (first | (with_reducible first | exact HB.out | apply below_alloc | apply pw_below_drewN | apply below_drew1) | exact HB.out)⟩⟩
  case rest =>
    clear HC3
    try clear p2
    try clear c4
    obtain ⟨kq, x7_2, x8_2, rfl, rfl, HA, HJ2, HB⟩ := hcut
    cases kq with
    | zero => exact absurd HA.out (by simp [cal_zone.j0])
    | succ kj2 =>
      have H := HA.out
      clear HA
      simp only [cal_zone.j0] at H
      obtain ⟨y650101, hy650101⟩ : ∃ y_ : List ByteArray, y_ = (([(⟨#[90]⟩ : ByteArray), (⟨#[115, 100, 100]⟩ : ByteArray), x7_2] : List ByteArray)) := ⟨_, rfl⟩
      replace H : ((cal_shape.f kj2 a0 y650101).bind fun bt650104 => (if bt650104.1 < 0 then (some (0, false, bt650104.2)) else (if bt650104.1 = 0 then (some (0, true, 0)) else (if 1 ≤ 3 then (if 3 ≤ (a0.size : Int) then ((cal_num.f kj2 (a0.extract 1 3)).bind fun t650106 => (if bt650104.1 = 2 then (if 0 ≤ x8_2 then (if x8_2 ≤ (a0.size : Int) then ((cal_num.f kj2 (a0.extract (x8_2 : Int).toNat a0.size)).bind fun t650107 => (cal_zone.j1 kj2 a0 x8_2 t650106 t650107)) else (none)) else (none)) else (cal_zone.j1 kj2 a0 x8_2 t650106 0))) else (none)) else (none))))) = some (r1, r2, r3) := by first | (rw [hy650101]; with_reducible exact H) | (have H2_ := (Option.bind_some _ _).symm.trans H; rw [hy650101]; with_reducible exact H2_) | (have H2_ := (Option.bind_some _ _).symm.trans H; with_reducible exact H2_) | with_reducible exact H | (rw [hy650101]; exact H) | exact H
      have Ny650101 := Aside0.mk hy650101
      clear hy650101
      replace H := Option.bind_eq_some_iff.mp H
      obtain ⟨⟨t650104, t650105⟩, A50, H⟩ := H
      replace H : (if t650104 < 0 then (some (0, false, t650105)) else (if t650104 = 0 then (some (0, true, 0)) else (if 1 ≤ 3 then (if 3 ≤ (a0.size : Int) then ((cal_num.f kj2 (a0.extract 1 3)).bind fun t650106 => (if t650104 = 2 then (if 0 ≤ x8_2 then (if x8_2 ≤ (a0.size : Int) then ((cal_num.f kj2 (a0.extract (x8_2 : Int).toNat a0.size)).bind fun t650107 => (cal_zone.j1 kj2 a0 x8_2 t650106 t650107)) else (none)) else (none)) else (cal_zone.j1 kj2 a0 x8_2 t650106 0))) else (none)) else (none)))) = some (r1, r2, r3) := H
      have A5 := Aside0.mk A50
      clear A50
      by_cases c6 : t650104 < 0
      · rw [if_pos c6] at H
        have c6b0 : decide (t650104 < 0) = true := decide_eq_true c6
        clear c6
        simp only [Option.some.injEq, Prod.mk.injEq] at H
        obtain ⟨rfl, rfl, rfl⟩ := H
        go_wp2_with (first | ((with_reducible refine gate_dst (N := 18) rfl ?_); refine Kd.R_lit Kd.string _ 9 ?hg (N := 18) ?hd (xs := ([(⟨#[90]⟩ : ByteArray), (⟨#[115, 100, 100]⟩ : ByteArray), x7_2] : List ByteArray)) (inner := [.string (⟨#[90]⟩ : ByteArray), .string (⟨#[115, 100, 100]⟩ : ByteArray), .string x7_2]) (ok := fun _ => True) (okp := fun _ => True) ?hr ?hp (fun _ hk => hk) trivial (Below.refl _ _) (Nat.le_refl _) (by simp) ?_; (case hd => rfl); (case hg => rfl); (case hr => first | (go_simp; done) | (go_simp; rfl)); (case hp => exact (Reps.one (show Kd.M Kd.string _ _ _ (⟨#[90]⟩ : ByteArray) [.string (⟨#[90]⟩ : ByteArray)] from rfl) (Reps.one (show Kd.M Kd.string _ _ _ (⟨#[115, 100, 100]⟩ : ByteArray) [.string (⟨#[115, 100, 100]⟩ : ByteArray)] from rfl) (Reps.one (show Kd.M Kd.string _ _ _ x7_2 [.string x7_2] from rfl) (Reps.none _ _))))); intro v650102 w7 ho8 hb hg_ hnew_; clear hg_ hnew_; (first | rw [← Ny650101.out] at ho8 | (simp only [Int.reduceToNat] at ho8; rw [← Ny650101.out] at ho8)); have n0_ := Aside0.mk (Kd.R_lower ho8 (below_size (by repeat (first | (with_reducible first | exact HB.out | apply below_alloc | apply pw_below_drewN | apply below_drew1) | exact HB.out)))); have n1_ := Aside0.mk (below_step (by repeat (first | (with_reducible first | exact HB.out | apply below_alloc | apply pw_below_drewN | apply below_drew1) | exact HB.out)) hb); clear HB; have HO650103 := n0_; have HB := n1_; clear n0_ n1_; clear hb ho8; obtain ⟨Ao9, co9, eo9⟩ := Kd.R_slice HO650103.out; subst eo9) | ((with_reducible refine gate_callee (f := 42) rfl ?_); refine goesL_ (some 19) rfl rfl Tryd.func42 (by kernel_rfl) rfl #[.string a0, .slice Ao9 y650101.length co9] rfl (by (try simp only [List.map_toArray, List.map_cons, List.map_nil]); first | done | rfl | (simp only [List.length_drop, List.length_take]; rfl)) ?_; (with_reducible refine (cal_shape.calls kj2 a0 _ _ y650101 t650104 t650105 _ ?side1 ?side2 A5.out).mono ?_); (case side1 => repeat (first | exact (Kd.R_reads' HO650103.out).2.2 | (with_reducible refine Kd.C_alloc ?_ _) | (with_reducible refine Kd.C_drewN ?_ _) | (with_reducible refine Kd.C_drew ?_))); (case side2 => exact (Kd.R_reads' HO650103.out).2.1); rintro e w10 ⟨rfl, hb⟩; refine ⟨_, rfl, ?_⟩; have n0_ := Aside0.mk (Kd.R_below (by (with_reducible repeat (first | apply Kd.R_alloc | apply Kd.R_drewN | apply Kd.R_drew)); exact HO650103.out) hb); have n1_ := Aside0.mk (below_step (by repeat (first | (with_reducible first | exact HB.out | apply below_alloc | apply pw_below_drewN | apply below_drew1) | exact HB.out)) hb); clear HO650103; clear HB; have HO650103 := n0_; have HB := n1_; clear n0_ n1_; (try clear hb); (try clear hb2); (try clear hk); (try clear hi)))
        go_ret3
        exact ⟨by first | rfl | (simp [errW_none, errW_some] <;> rfl) | (simp [*, errW_none, errW_some] <;> rfl), by repeat (first | (with_reducible first | exact HB.out | apply below_alloc | apply pw_below_drewN | apply below_drew1) | exact HB.out)⟩
      · rw [if_neg c6] at H
        have c6b0 : decide (t650104 < 0) = false := decide_eq_false c6
        clear c6
        by_cases c11 : t650104 = 0
        · rw [if_pos c11] at H
          have c11b0 : (t650104 == 0) = true := beq_iff_eq.mpr c11
          have c11b1 : (t650104 != 0) = false := bne_eq_false_iff_eq.mpr c11
          clear c11
          simp only [Option.some.injEq, Prod.mk.injEq] at H
          obtain ⟨rfl, rfl, rfl⟩ := H
          go_wp2_with (first | ((with_reducible refine gate_dst (N := 18) rfl ?_); refine Kd.R_lit Kd.string _ 9 ?hg (N := 18) ?hd (xs := ([(⟨#[90]⟩ : ByteArray), (⟨#[115, 100, 100]⟩ : ByteArray), x7_2] : List ByteArray)) (inner := [.string (⟨#[90]⟩ : ByteArray), .string (⟨#[115, 100, 100]⟩ : ByteArray), .string x7_2]) (ok := fun _ => True) (okp := fun _ => True) ?hr ?hp (fun _ hk => hk) trivial (Below.refl _ _) (Nat.le_refl _) (by simp) ?_; (case hd => rfl); (case hg => rfl); (case hr => first | (go_simp; done) | (go_simp; rfl)); (case hp => exact (Reps.one (show Kd.M Kd.string _ _ _ (⟨#[90]⟩ : ByteArray) [.string (⟨#[90]⟩ : ByteArray)] from rfl) (Reps.one (show Kd.M Kd.string _ _ _ (⟨#[115, 100, 100]⟩ : ByteArray) [.string (⟨#[115, 100, 100]⟩ : ByteArray)] from rfl) (Reps.one (show Kd.M Kd.string _ _ _ x7_2 [.string x7_2] from rfl) (Reps.none _ _))))); intro v650102 w12 ho13 hb hg_ hnew_; clear hg_ hnew_; (first | rw [← Ny650101.out] at ho13 | (simp only [Int.reduceToNat] at ho13; rw [← Ny650101.out] at ho13)); have n0_ := Aside0.mk (Kd.R_lower ho13 (below_size (by repeat (first | (with_reducible first | exact HB.out | apply below_alloc | apply pw_below_drewN | apply below_drew1) | exact HB.out)))); have n1_ := Aside0.mk (below_step (by repeat (first | (with_reducible first | exact HB.out | apply below_alloc | apply pw_below_drewN | apply below_drew1) | exact HB.out)) hb); clear HB; have HO650103 := n0_; have HB := n1_; clear n0_ n1_; clear hb ho13; obtain ⟨Ao14, co14, eo14⟩ := Kd.R_slice HO650103.out; subst eo14) | ((with_reducible refine gate_callee (f := 42) rfl ?_); refine goesL_ (some 19) rfl rfl Tryd.func42 (by kernel_rfl) rfl #[.string a0, .slice Ao14 y650101.length co14] rfl (by (try simp only [List.map_toArray, List.map_cons, List.map_nil]); first | done | rfl | (simp only [List.length_drop, List.length_take]; rfl)) ?_; (with_reducible refine (cal_shape.calls kj2 a0 _ _ y650101 t650104 t650105 _ ?side1 ?side2 A5.out).mono ?_); (case side1 => repeat (first | exact (Kd.R_reads' HO650103.out).2.2 | (with_reducible refine Kd.C_alloc ?_ _) | (with_reducible refine Kd.C_drewN ?_ _) | (with_reducible refine Kd.C_drew ?_))); (case side2 => exact (Kd.R_reads' HO650103.out).2.1); rintro e w15 ⟨rfl, hb⟩; refine ⟨_, rfl, ?_⟩; have n0_ := Aside0.mk (Kd.R_below (by (with_reducible repeat (first | apply Kd.R_alloc | apply Kd.R_drewN | apply Kd.R_drew)); exact HO650103.out) hb); have n1_ := Aside0.mk (below_step (by repeat (first | (with_reducible first | exact HB.out | apply below_alloc | apply pw_below_drewN | apply below_drew1) | exact HB.out)) hb); clear HO650103; clear HB; have HO650103 := n0_; have HB := n1_; clear n0_ n1_; (try clear hb); (try clear hb2); (try clear hk); (try clear hi)))
          go_ret3
          exact ⟨by first | rfl | (simp [errW_none, errW_some] <;> rfl) | (simp [*, errW_none, errW_some] <;> rfl), by repeat (first | (with_reducible first | exact HB.out | apply below_alloc | apply pw_below_drewN | apply below_drew1) | exact HB.out)⟩
        · rw [if_neg c11] at H
          have c11b0 : (t650104 == 0) = false := beq_eq_false_iff_ne.mpr c11
          have c11b1 : (t650104 != 0) = true := bne_iff_ne.mpr c11
          by_cases c16 : 1 ≤ 3
          · rw [if_pos c16] at H
            have c16b0 := eq_true c16
            have c16b1 : decide (1 ≤ 3) = true := decide_eq_true c16
            clear c16
            by_cases c17 : 3 ≤ (a0.size : Int)
            · rw [if_pos c17] at H
              have c17b0 := eq_true c17
              have c17b1 : decide (3 ≤ (a0.size : Int)) = true := decide_eq_true c17
              clear c17
              replace H := Option.bind_eq_some_iff.mp H
              obtain ⟨t650106, A180, H⟩ := H
              replace H : (if t650104 = 2 then (if 0 ≤ x8_2 then (if x8_2 ≤ (a0.size : Int) then ((cal_num.f kj2 (a0.extract (x8_2 : Int).toNat a0.size)).bind fun t650107 => (cal_zone.j1 kj2 a0 x8_2 t650106 t650107)) else (none)) else (none)) else (cal_zone.j1 kj2 a0 x8_2 t650106 0)) = some (r1, r2, r3) := H
              have A18 := Aside0.mk A180
              clear A180
              have HC19 := Aside0.mk H
              clear H
              go_upto_if 31 with (first | ((with_reducible refine gate_dst (N := 18) rfl ?_); refine Kd.R_lit Kd.string _ 9 ?hg (N := 18) ?hd (xs := ([(⟨#[90]⟩ : ByteArray), (⟨#[115, 100, 100]⟩ : ByteArray), x7_2] : List ByteArray)) (inner := [.string (⟨#[90]⟩ : ByteArray), .string (⟨#[115, 100, 100]⟩ : ByteArray), .string x7_2]) (ok := fun _ => True) (okp := fun _ => True) ?hr ?hp (fun _ hk => hk) trivial (Below.refl _ _) (Nat.le_refl _) (by simp) ?_; (case hd => rfl); (case hg => rfl); (case hr => first | (go_simp; done) | (go_simp; rfl)); (case hp => exact (Reps.one (show Kd.M Kd.string _ _ _ (⟨#[90]⟩ : ByteArray) [.string (⟨#[90]⟩ : ByteArray)] from rfl) (Reps.one (show Kd.M Kd.string _ _ _ (⟨#[115, 100, 100]⟩ : ByteArray) [.string (⟨#[115, 100, 100]⟩ : ByteArray)] from rfl) (Reps.one (show Kd.M Kd.string _ _ _ x7_2 [.string x7_2] from rfl) (Reps.none _ _))))); intro v650102 w20 ho21 hb hg_ hnew_; clear hg_ hnew_; (first | rw [← Ny650101.out] at ho21 | (simp only [Int.reduceToNat] at ho21; rw [← Ny650101.out] at ho21)); have n0_ := Aside0.mk (Kd.R_lower ho21 (below_size (by repeat (first | (with_reducible first | exact HB.out | apply below_alloc | apply pw_below_drewN | apply below_drew1) | exact HB.out)))); have n1_ := Aside0.mk (below_step (by repeat (first | (with_reducible first | exact HB.out | apply below_alloc | apply pw_below_drewN | apply below_drew1) | exact HB.out)) hb); clear HB; have HO650103 := n0_; have HB := n1_; clear n0_ n1_; clear hb ho21; obtain ⟨Ao22, co22, eo22⟩ := Kd.R_slice HO650103.out; subst eo22) | ((with_reducible refine gate_callee (f := 42) rfl ?_); refine goesL_ (some 19) rfl rfl Tryd.func42 (by kernel_rfl) rfl #[.string a0, .slice Ao22 y650101.length co22] rfl (by (try simp only [List.map_toArray, List.map_cons, List.map_nil]); first | done | rfl | (simp only [List.length_drop, List.length_take]; rfl)) ?_; (with_reducible refine (cal_shape.calls kj2 a0 _ _ y650101 t650104 t650105 _ ?side1 ?side2 A5.out).mono ?_); (case side1 => repeat (first | exact (Kd.R_reads' HO650103.out).2.2 | (with_reducible refine Kd.C_alloc ?_ _) | (with_reducible refine Kd.C_drewN ?_ _) | (with_reducible refine Kd.C_drew ?_))); (case side2 => exact (Kd.R_reads' HO650103.out).2.1); rintro e w23 ⟨rfl, hb⟩; refine ⟨_, rfl, ?_⟩; have n0_ := Aside0.mk (Kd.R_below (by (with_reducible repeat (first | apply Kd.R_alloc | apply Kd.R_drewN | apply Kd.R_drew)); exact HO650103.out) hb); have n1_ := Aside0.mk (below_step (by repeat (first | (with_reducible first | exact HB.out | apply below_alloc | apply pw_below_drewN | apply below_drew1) | exact HB.out)) hb); clear HO650103; clear HB; have HO650103 := n0_; have HB := n1_; clear n0_ n1_; (try clear hb); (try clear hb2); (try clear hk); (try clear hi)) | ((with_reducible refine gate_callee (f := 43) rfl ?_); refine goesL_ (some 29) rfl rfl Tryd.func43 (by kernel_rfl) rfl #[.string (a0.extract 1 3)] rfl (by (try simp only [List.map_toArray, List.map_cons, List.map_nil]); first | done | rfl | (simp only [List.length_drop, List.length_take]; rfl)) ?_; (with_reducible refine (cal_num.calls kj2 (a0.extract 1 3) t650106 _ A18.out).mono ?_); rintro e w' ⟨rfl, ⟨nd, rfl⟩⟩; refine ⟨_, rfl, ?_⟩))
              (try simp only [Act.put, List.setIfInBounds_toArray, List.set_cons_zero, List.set_cons_succ])
              go_cut [12] (fun v12 wc => ∃ (kq : Nat) (x12_18 : Int), v12 = .int .i64 x12_18 ∧ Aside0 (cal_zone.j1 kq a0 x8_2 t650106 x12_18 = some (r1, r2, r3)) ∧ Aside0 (kq ≤ kj2) ∧ Aside0 (Below w.heap.size w wc))
              case first =>
                have H := HC19.out
                clear HC19
                by_cases c24 : t650104 = 2
                · rw [if_pos c24] at H
                  have c24b0 : (t650104 == 2) = true := beq_iff_eq.mpr c24
                  have c24b1 : (t650104 != 2) = false := bne_eq_false_iff_eq.mpr c24
                  clear c24
                  (first | rw [c24b0] | (simp only [i64_w, i32_w]; rw [c24b0]) | skip)
                  by_cases c25 : 0 ≤ x8_2
                  · rw [if_pos c25] at H
                    have c25b0 := eq_true c25
                    have c25b1 : decide (0 ≤ x8_2) = true := decide_eq_true c25
                    clear c25
                    by_cases c26 : x8_2 ≤ (a0.size : Int)
                    · rw [if_pos c26] at H
                      have c26b0 := eq_true c26
                      have c26b1 : decide (x8_2 ≤ (a0.size : Int)) = true := decide_eq_true c26
                      clear c26
                      replace H := Option.bind_eq_some_iff.mp H
                      obtain ⟨t650107, A270, H⟩ := H
                      replace H : (cal_zone.j1 kj2 a0 x8_2 t650106 t650107) = some (r1, r2, r3) := H
                      have A27 := Aside0.mk A270
                      clear A270
                      have H' := Aside0.mk H
                      clear H
                      go_wp2_with (first | ((with_reducible refine gate_callee (f := 43) rfl ?_); refine goesL_ (some 35) rfl rfl Tryd.func43 (by kernel_rfl) rfl #[.string (a0.extract (x8_2 : Int).toNat a0.size)] rfl (by (try simp only [List.map_toArray, List.map_cons, List.map_nil]); first | done | rfl | (simp only [List.length_drop, List.length_take]; rfl)) ?_; (with_reducible refine (cal_num.calls kj2 (a0.extract (x8_2 : Int).toNat a0.size) t650107 _ A27.out).mono ?_); rintro e w' ⟨rfl, ⟨nd, rfl⟩⟩; refine ⟨_, rfl, ?_⟩))
                      go_meet
                      case rel => exact ⟨_, (t650107), (by first | rfl | (simp; done) | (simp [*]; done)), H', ⟨by have := HJ2.out; first | omega | exact Nat.le_refl _⟩, ⟨by repeat (first | (with_reducible first | exact HB.out | apply below_alloc | apply pw_below_drewN | apply below_drew1) | exact HB.out)⟩⟩
                    · rw [if_neg c26] at H
                      exact absurd H (by simp)
                  · rw [if_neg c25] at H
                    exact absurd H (by simp)
                · rw [if_neg c24] at H
                  have c24b0 : (t650104 == 2) = false := beq_eq_false_iff_ne.mpr c24
                  have c24b1 : (t650104 != 2) = true := bne_iff_ne.mpr c24
                  (first | rw [c24b0] | (simp only [i64_w, i32_w]; rw [c24b0]) | skip)
                  have H' := Aside0.mk H
                  clear H
                  go_wp2
                  go_meet
                  case rel => exact ⟨_, (0), (by first | rfl | (simp; done) | (simp [*]; done)), H', ⟨by have := HJ2.out; first | omega | exact Nat.le_refl _⟩, ⟨by repeat (first | (with_reducible first | exact HB.out | apply below_alloc | apply pw_below_drewN | apply below_drew1) | exact HB.out)⟩⟩
              case rest =>
                clear HC19
                try clear c1
                try clear c2
                try clear p2
                try clear c4
                try clear c6
                try clear c6b0
                try clear c11
                try clear c11b0
                try clear c11b1
                try clear c16
                try clear c16b0
                try clear c16b1
                try clear c17
                try clear c17b0
                try clear c17b1
                try clear c24
                try clear c24b0
                try clear c24b1
                try clear c25
                try clear c25b0
                try clear c25b1
                try clear c26
                try clear c26b0
                try clear c26b1
                try clear p2
                obtain ⟨kq, x12_18, rfl, HA, HJ18, HB⟩ := hcut
                cases kq with
                | zero => exact absurd HA.out (by simp [cal_zone.j1])
                | succ kj18 =>
                  have H := HA.out
                  clear HA
                  simp only [cal_zone.j1] at H
                  by_cases c28 : t650106 > 23
                  · rw [if_pos c28] at H
                    have c28b0 : decide (23 < t650106) = true := decide_eq_true c28
                    clear c28
                    simp only [Option.some.injEq, Prod.mk.injEq] at H
                    obtain ⟨rfl, rfl, rfl⟩ := H
                    go_wp2
                    go_ret3
                    exact ⟨by first | rfl | (simp [errW_none, errW_some] <;> rfl) | (simp [*, errW_none, errW_some] <;> rfl), by repeat (first | (with_reducible first | exact HB.out | apply below_alloc | apply pw_below_drewN | apply below_drew1) | exact HB.out)⟩
                  · rw [if_neg c28] at H
                    have c28b0 : decide (23 < t650106) = false := decide_eq_false c28
                    clear c28
                    by_cases c29 : x12_18 > 59
                    · rw [if_pos c29] at H
                      have c29b0 : decide (59 < x12_18) = true := decide_eq_true c29
                      clear c29
                      simp only [Option.some.injEq, Prod.mk.injEq] at H
                      obtain ⟨rfl, rfl, rfl⟩ := H
                      go_wp2
                      go_ret3
                      exact ⟨by first | rfl | (simp [errW_none, errW_some] <;> rfl) | (simp [*, errW_none, errW_some] <;> rfl), by repeat (first | (with_reducible first | exact HB.out | apply below_alloc | apply pw_below_drewN | apply below_drew1) | exact HB.out)⟩
                    · rw [if_neg c29] at H
                      have c29b0 : decide (59 < x12_18) = false := decide_eq_false c29
                      clear c29
                      by_cases c30 : 0 < (a0.size : Int)
                      · rw [if_pos c30] at H
                        have c30b0 : decide (0 < (a0.size : Int)) = true := decide_eq_true c30
                        have c30b1 : decide (0 < a0.size) = true := decide_eq_true (by omega)
                        clear c30
                        by_cases c32 : (bt a0 0) = 43
                        · rw [if_pos c32] at H
                          have c32b0 : ((bt a0 0) == 43) = true := beq_iff_eq.mpr c32
                          have c32b1 : ((bt a0 0) != 43) = false := bne_eq_false_iff_eq.mpr c32
                          clear c32
                          simp only [Option.some.injEq, Prod.mk.injEq] at H
                          obtain ⟨rfl, rfl, rfl⟩ := H
                          have p31 : 0 ≤ (0 : Int) := (by omega)
                          have q31 : 0 < a0.size := (by have : (0 : Int) < (a0.size : Int) := of_decide_eq_true (by first | (with_reducible assumption) | assumption); omega)
                          have hx31 : ∀ h : 0 < a0.size, ((a0[0]'h).toNat : Int) = bt a0 0 := bt_at a0 0
                          clear p31
                          have qi31 : (0 < (a0.size : Int)) = True := eq_true (of_decide_eq_true (by first | (with_reducible assumption) | assumption))
                          replace q31 := eq_true q31
                          go_wp2
                          go_ret3
                          exact ⟨by first | rfl | (simp [errW_none, errW_some] <;> rfl) | (simp [*, errW_none, errW_some] <;> rfl), by repeat (first | (with_reducible first | exact HB.out | apply below_alloc | apply pw_below_drewN | apply below_drew1) | exact HB.out)⟩
                        · rw [if_neg c32] at H
                          have c32b0 : ((bt a0 0) == 43) = false := beq_eq_false_iff_ne.mpr c32
                          have c32b1 : ((bt a0 0) != 43) = true := bne_iff_ne.mpr c32
                          by_cases c33 : (wrap64 ((wrap64 (60 * t650106)) + x12_18)) = 0
                          · rw [if_pos c33] at H
                            have c33b0 : ((wrap64 ((wrap64 (60 * t650106)) + x12_18)) == 0) = true := beq_iff_eq.mpr c33
                            have c33b1 : ((wrap64 ((wrap64 (60 * t650106)) + x12_18)) != 0) = false := bne_eq_false_iff_eq.mpr c33
                            clear c33
                            simp only [Option.some.injEq, Prod.mk.injEq] at H
                            obtain ⟨rfl, rfl, rfl⟩ := H
                            have p31 : 0 ≤ (0 : Int) := (by omega)
                            have q31 : 0 < a0.size := (by have : (0 : Int) < (a0.size : Int) := of_decide_eq_true (by first | (with_reducible assumption) | assumption); omega)
                            have hx31 : ∀ h : 0 < a0.size, ((a0[0]'h).toNat : Int) = bt a0 0 := bt_at a0 0
                            clear p31
                            have qi31 : (0 < (a0.size : Int)) = True := eq_true (of_decide_eq_true (by first | (with_reducible assumption) | assumption))
                            replace q31 := eq_true q31
                            go_wp2
                            go_ret3
                            exact ⟨by first | rfl | (simp [errW_none, errW_some] <;> rfl) | (simp [*, errW_none, errW_some] <;> rfl), by repeat (first | (with_reducible first | exact HB.out | apply below_alloc | apply pw_below_drewN | apply below_drew1) | exact HB.out)⟩
                          · rw [if_neg c33] at H
                            have c33b0 : ((wrap64 ((wrap64 (60 * t650106)) + x12_18)) == 0) = false := beq_eq_false_iff_ne.mpr c33
                            have c33b1 : ((wrap64 ((wrap64 (60 * t650106)) + x12_18)) != 0) = true := bne_iff_ne.mpr c33
                            simp only [Option.some.injEq, Prod.mk.injEq] at H
                            obtain ⟨rfl, rfl, rfl⟩ := H
                            have p31 : 0 ≤ (0 : Int) := (by omega)
                            have q31 : 0 < a0.size := (by have : (0 : Int) < (a0.size : Int) := of_decide_eq_true (by first | (with_reducible assumption) | assumption); omega)
                            have hx31 : ∀ h : 0 < a0.size, ((a0[0]'h).toNat : Int) = bt a0 0 := bt_at a0 0
                            clear p31
                            have qi31 : (0 < (a0.size : Int)) = True := eq_true (of_decide_eq_true (by first | (with_reducible assumption) | assumption))
                            replace q31 := eq_true q31
                            go_wp2
                            go_ret3
                            exact ⟨by first | rfl | (simp [errW_none, errW_some] <;> rfl) | (simp [*, errW_none, errW_some] <;> rfl), by repeat (first | (with_reducible first | exact HB.out | apply below_alloc | apply pw_below_drewN | apply below_drew1) | exact HB.out)⟩
                      · rw [if_neg c30] at H
                        exact absurd H (by simp)
            · rw [if_neg c17] at H
              exact absurd H (by simp)
          · rw [if_neg c16] at H
            exact absurd H (by simp)

end Go.Proofs.YtiklakkkgmilnaaDoor.GC
