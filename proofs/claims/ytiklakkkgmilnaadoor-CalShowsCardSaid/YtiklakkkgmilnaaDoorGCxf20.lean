-- written by a program (gp.py over the kit's print) for this claim
import Derived.Test.YtiklakkkgmilnaaDoorGCx0
import Derived.Test.YtiklakkkgmilnaaDoorGCxf41
import Derived.Test.YtiklakkkgmilnaaDoorGCxf40
import Derived.Test.YtiklakkkgmilnaaDoorGCxf39
namespace Go.Proofs.YtiklakkkgmilnaaDoor.GC
open Go.RowKit Go.Proofs.YtiklakkkgmilnaaDoorW.PrintWords Go.Proofs.YtiklakkkgmilnaaDoorW.PrintLast Go.Proofs.YtiklakkkgmilnaaDoor.Ext Go.Proofs.YtiklakkkgmilnaaDoor.PCal
attribute [local go_sem] max2_int min2_int max_two min_two   -- for this text alone
set_option linter.unusedVariables false
set_option linter.unusedSimpArgs false

/-! ### larderref03_PrintInstant: function 20 -/
mutual
def larderref03_PrintInstant.j0 : Nat → Int → Int → Bool → Option (ByteArray × Int)
  | 0, _, _, _ => none
  | k + 1, x0, x1, x15 => if x15 = true then (some ((⟨#[]⟩ : ByteArray), 35)) else (if x1 < (-1439) then (larderref03_PrintInstant.j1 k x0 x1 true) else (larderref03_PrintInstant.j1 k x0 x1 (decide (x1 > 1439))))
def larderref03_PrintInstant.j1 : Nat → Int → Int → Bool → Option (ByteArray × Int)
  | 0, _, _, _ => none
  | k + 1, x0, x1, x21 => if x21 = true then (some ((⟨#[]⟩ : ByteArray), 33)) else (if (wrap64 (x0 + (wrap64 (60 * x1)))) < 0 then (larderref03_PrintInstant.j2 k x1 (wrap64 (x0 + (wrap64 (60 * x1)))) true) else (larderref03_PrintInstant.j2 k x1 (wrap64 (x0 + (wrap64 (60 * x1)))) (decide ((wrap64 (x0 + (wrap64 (60 * x1)))) > 315569519999))))
def larderref03_PrintInstant.j2 : Nat → Int → Int → Bool → Option (ByteArray × Int)
  | 0, _, _, _ => none
  | k + 1, x1, x6, x31 => if x31 = true then (some ((⟨#[]⟩ : ByteArray), 35)) else ((larderref03_date.f k (wrap64 (Int.tdiv x6 86400))).bind fun bt200101 => ((larderref03_PrintDate.f k bt200101.1 bt200101.2.1 bt200101.2.2 0).bind fun bt200104 => (if bt200104.1.size + 1 ≤ 9223372036854775807 then ((larderref03_pad.f k (wrap64 (Int.tdiv (Int.tmod x6 86400) 3600)) 2).bind fun t200106 => (if bt200104.1.size + 1 + t200106.size ≤ 9223372036854775807 then (if bt200104.1.size + 1 + t200106.size + 1 ≤ 9223372036854775807 then ((larderref03_pad.f k (Int.tmod (wrap64 (Int.tdiv (Int.tmod x6 86400) 60)) 60) 2).bind fun t200107 => (if bt200104.1.size + 1 + t200106.size + 1 + t200107.size ≤ 9223372036854775807 then (if bt200104.1.size + 1 + t200106.size + 1 + t200107.size + 1 ≤ 9223372036854775807 then ((larderref03_pad.f k (Int.tmod (Int.tmod x6 86400) 60) 2).bind fun t200108 => (if bt200104.1.size + 1 + t200106.size + 1 + t200107.size + 1 + t200108.size ≤ 9223372036854775807 then (if x1 = 0 then (if bt200104.1.size + 1 + t200106.size + 1 + t200107.size + 1 + t200108.size + 1 ≤ 9223372036854775807 then (some (((((((bt200104.1 ++ (⟨#[84]⟩ : ByteArray)) ++ t200106) ++ (⟨#[58]⟩ : ByteArray)) ++ t200107) ++ (⟨#[58]⟩ : ByteArray)) ++ t200108) ++ (⟨#[90]⟩ : ByteArray), 0)) else (none)) else (if x1 < 0 then (if bt200104.1.size + 1 + t200106.size + 1 + t200107.size + 1 + t200108.size + 1 ≤ 9223372036854775807 then ((larderref03_pad.f k (wrap64 (Int.tdiv (wrap64 (-x1)) 60)) 2).bind fun t200109 => (if bt200104.1.size + 1 + t200106.size + 1 + t200107.size + 1 + t200108.size + 1 + t200109.size ≤ 9223372036854775807 then (if bt200104.1.size + 1 + t200106.size + 1 + t200107.size + 1 + t200108.size + 1 + t200109.size + 1 ≤ 9223372036854775807 then ((larderref03_pad.f k (Int.tmod (wrap64 (-x1)) 60) 2).bind fun t200110 => (if bt200104.1.size + 1 + t200106.size + 1 + t200107.size + 1 + t200108.size + 1 + t200109.size + 1 + t200110.size ≤ 9223372036854775807 then (some ((((((((((bt200104.1 ++ (⟨#[84]⟩ : ByteArray)) ++ t200106) ++ (⟨#[58]⟩ : ByteArray)) ++ t200107) ++ (⟨#[58]⟩ : ByteArray)) ++ t200108) ++ (⟨#[45]⟩ : ByteArray)) ++ t200109) ++ (⟨#[58]⟩ : ByteArray)) ++ t200110, 0)) else (none))) else (none)) else (none))) else (none)) else (if bt200104.1.size + 1 + t200106.size + 1 + t200107.size + 1 + t200108.size + 1 ≤ 9223372036854775807 then ((larderref03_pad.f k (wrap64 (Int.tdiv x1 60)) 2).bind fun t200111 => (if bt200104.1.size + 1 + t200106.size + 1 + t200107.size + 1 + t200108.size + 1 + t200111.size ≤ 9223372036854775807 then (if bt200104.1.size + 1 + t200106.size + 1 + t200107.size + 1 + t200108.size + 1 + t200111.size + 1 ≤ 9223372036854775807 then ((larderref03_pad.f k (Int.tmod x1 60) 2).bind fun t200112 => (if bt200104.1.size + 1 + t200106.size + 1 + t200107.size + 1 + t200108.size + 1 + t200111.size + 1 + t200112.size ≤ 9223372036854775807 then (some ((((((((((bt200104.1 ++ (⟨#[84]⟩ : ByteArray)) ++ t200106) ++ (⟨#[58]⟩ : ByteArray)) ++ t200107) ++ (⟨#[58]⟩ : ByteArray)) ++ t200108) ++ (⟨#[43]⟩ : ByteArray)) ++ t200111) ++ (⟨#[58]⟩ : ByteArray)) ++ t200112, 0)) else (none))) else (none)) else (none))) else (none)))) else (none))) else (none)) else (none))) else (none)) else (none))) else (none))))
end
def larderref03_PrintInstant.f (k : Nat) (a0 : Int) (a1 : Int) : Option (ByteArray × Int) := if a0 < 0 then (larderref03_PrintInstant.j0 k a0 a1 true) else (larderref03_PrintInstant.j0 k a0 a1 (decide (a0 > 315569519999)))
theorem larderref03_PrintInstant.mono_l : ∀ k, (∀ y0 y1 y2, LeO (larderref03_PrintInstant.j0 k y0 y1 y2) (larderref03_PrintInstant.j0 (k + 1) y0 y1 y2)) ∧ (∀ y0 y1 y2, LeO (larderref03_PrintInstant.j1 k y0 y1 y2) (larderref03_PrintInstant.j1 (k + 1) y0 y1 y2)) ∧ (∀ y0 y1 y2, LeO (larderref03_PrintInstant.j2 k y0 y1 y2) (larderref03_PrintInstant.j2 (k + 1) y0 y1 y2))
  | 0 => ⟨fun _ _ _ r h => by simp [larderref03_PrintInstant.j0] at h, fun _ _ _ r h => by simp [larderref03_PrintInstant.j1] at h, fun _ _ _ r h => by simp [larderref03_PrintInstant.j2] at h⟩
  | k + 1 => by
    obtain ⟨ih0, ih1, ih2⟩ := larderref03_PrintInstant.mono_l k
    refine ⟨?_, ?_, ?_⟩
    · intro y0 y1 y2
      unfold larderref03_PrintInstant.j0
      repeat' first
      | (with_reducible exact ih0 _ _ _)
      | (with_reducible exact ih1 _ _ _)
      | (with_reducible exact ih2 _ _ _)
      | (with_reducible exact larderref03_PrintDate.mono _ _ _ _ _)
      | (with_reducible exact larderref03_date.mono _ _)
      | (with_reducible exact larderref03_pad.mono _ _ _)
      | (with_reducible exact LeO.refl _)
      | (with_reducible exact LeO.none _)
      | (with_reducible refine LeO.ite ?_ ?_)
      | (with_reducible refine LeO.bind ?_ (fun _ => ?_))
      | exact ih0 _ _ _
      | exact ih1 _ _ _
      | exact ih2 _ _ _
      | exact larderref03_PrintDate.mono _ _ _ _ _
      | exact larderref03_date.mono _ _
      | exact larderref03_pad.mono _ _ _
      | exact LeO.none _
      | refine LeO.ite ?_ ?_
      | refine LeO.bind ?_ (fun _ => ?_)
    · intro y0 y1 y2
      unfold larderref03_PrintInstant.j1
      repeat' first
      | (with_reducible exact ih0 _ _ _)
      | (with_reducible exact ih1 _ _ _)
      | (with_reducible exact ih2 _ _ _)
      | (with_reducible exact larderref03_PrintDate.mono _ _ _ _ _)
      | (with_reducible exact larderref03_date.mono _ _)
      | (with_reducible exact larderref03_pad.mono _ _ _)
      | (with_reducible exact LeO.refl _)
      | (with_reducible exact LeO.none _)
      | (with_reducible refine LeO.ite ?_ ?_)
      | (with_reducible refine LeO.bind ?_ (fun _ => ?_))
      | exact ih0 _ _ _
      | exact ih1 _ _ _
      | exact ih2 _ _ _
      | exact larderref03_PrintDate.mono _ _ _ _ _
      | exact larderref03_date.mono _ _
      | exact larderref03_pad.mono _ _ _
      | exact LeO.none _
      | refine LeO.ite ?_ ?_
      | refine LeO.bind ?_ (fun _ => ?_)
    · intro y0 y1 y2
      unfold larderref03_PrintInstant.j2
      repeat' first
      | (with_reducible exact ih0 _ _ _)
      | (with_reducible exact ih1 _ _ _)
      | (with_reducible exact ih2 _ _ _)
      | (with_reducible exact larderref03_PrintDate.mono _ _ _ _ _)
      | (with_reducible exact larderref03_date.mono _ _)
      | (with_reducible exact larderref03_pad.mono _ _ _)
      | (with_reducible exact LeO.refl _)
      | (with_reducible exact LeO.none _)
      | (with_reducible refine LeO.ite ?_ ?_)
      | (with_reducible refine LeO.bind ?_ (fun _ => ?_))
      | exact ih0 _ _ _
      | exact ih1 _ _ _
      | exact ih2 _ _ _
      | exact larderref03_PrintDate.mono _ _ _ _ _
      | exact larderref03_date.mono _ _
      | exact larderref03_pad.mono _ _ _
      | exact LeO.none _
      | refine LeO.ite ?_ ?_
      | refine LeO.bind ?_ (fun _ => ?_)
theorem larderref03_PrintInstant.mono : ∀ a0 a1 k, LeO (larderref03_PrintInstant.f k a0 a1) (larderref03_PrintInstant.f (k + 1) a0 a1) := by
  intro a0 a1 k
  obtain ⟨ih0, ih1, ih2⟩ := larderref03_PrintInstant.mono_l k
  unfold larderref03_PrintInstant.f
  repeat' first
      | (with_reducible exact ih0 _ _ _)
      | (with_reducible exact ih1 _ _ _)
      | (with_reducible exact ih2 _ _ _)
      | (with_reducible exact larderref03_PrintDate.mono _ _ _ _ _)
      | (with_reducible exact larderref03_date.mono _ _)
      | (with_reducible exact larderref03_pad.mono _ _ _)
      | (with_reducible exact LeO.refl _)
      | (with_reducible exact LeO.none _)
      | (with_reducible refine LeO.ite ?_ ?_)
      | (with_reducible refine LeO.bind ?_ (fun _ => ?_))
      | exact ih0 _ _ _
      | exact ih1 _ _ _
      | exact ih2 _ _ _
      | exact larderref03_PrintDate.mono _ _ _ _ _
      | exact larderref03_date.mono _ _
      | exact larderref03_pad.mono _ _ _
      | exact LeO.none _
      | refine LeO.ite ?_ ?_
      | refine LeO.bind ?_ (fun _ => ?_)
set_option maxHeartbeats 8000000 in
set_option maxRecDepth 100000 in
theorem larderref03_PrintInstant.calls (k : Nat) (a0 : Int) (a1 : Int) (r1 : ByteArray) (r2 : Int) (w : World) (h : larderref03_PrintInstant.f k a0 a1 = some (r1, r2)) :
    Calls Tryd.prog 20 #[.int .i64 a0, .int .i64 a1] w fun e w' => e = .returned (.tuple #[.string r1, .int .i64 r2]) ∧ Below w.heap.size w w' := by
  have HB := Aside0.mk (Below.refl w.heap.size w)
  have H : (if a0 < 0 then (larderref03_PrintInstant.j0 k a0 a1 true) else (larderref03_PrintInstant.j0 k a0 a1 (decide (a0 > 315569519999)))) = some (r1, r2) := h
  clear h
  have HC3 := Aside0.mk H
  clear H
  go_enter Tryd.func20, Tryd.ntmps20
  go_upto_region 1 with (fail)
  go_cut [15] (fun v15 wc => ∃ (kq : Nat) (x15_2 : Bool), v15 = .bool x15_2 ∧ Aside0 (larderref03_PrintInstant.j0 kq a0 a1 x15_2 = some (r1, r2)) ∧ Aside0 (kq ≤ k) ∧ Aside0 (Below w.heap.size w wc))
  case first =>
    have H := HC3.out
    clear HC3
    by_cases c4 : a0 < 0
    · rw [if_pos c4] at H
      have c4b0 : decide (a0 < 0) = true := decide_eq_true c4
      clear c4
      (first | rw [c4b0] | (simp only [i64_w, i32_w]; rw [c4b0]) | skip)
      have H' := Aside0.mk H
      clear H
      go_wp2
      go_meet
      case rel => exact ⟨_, (true), (by first | rfl | (simp; done) | (simp [*]; done)), H', ⟨by first | omega | exact Nat.le_refl _⟩, ⟨by repeat (first | (with_reducible first | exact HB.out | apply below_alloc | apply pw_below_drewN | apply below_drew1) | exact HB.out)⟩⟩
    · rw [if_neg c4] at H
      have c4b0 : decide (a0 < 0) = false := decide_eq_false c4
      clear c4
      (first | rw [c4b0] | (simp only [i64_w, i32_w]; rw [c4b0]) | skip)
      have H' := Aside0.mk H
      clear H
      go_wp2
      go_meet
      case rel => exact ⟨_, (decide (a0 > 315569519999)), (by first | rfl | (simp; done) | (simp [*]; done)), H', ⟨by first | omega | exact Nat.le_refl _⟩, ⟨by repeat (first | (with_reducible first | exact HB.out | apply below_alloc | apply pw_below_drewN | apply below_drew1) | exact HB.out)⟩⟩
  case rest =>
    clear HC3
    try clear c2
    try clear p2
    try clear c4
    try clear c4b0
    obtain ⟨kq, x15_2, rfl, HA, HJ2, HB⟩ := hcut
    cases kq with
    | zero => exact absurd HA.out (by simp [larderref03_PrintInstant.j0])
    | succ kj2 =>
      have H := HA.out
      clear HA
      simp only [larderref03_PrintInstant.j0] at H
      by_cases c5 : x15_2 = true
      · subst c5
        have H1 : (some ((⟨#[]⟩ : ByteArray), 35)) = some (r1, r2) := by rw [if_pos rfl] at H; exact H
        clear H
        have H := H1
        clear H1
        simp only [Option.some.injEq, Prod.mk.injEq] at H
        obtain ⟨rfl, rfl⟩ := H
        go_wp2
        go_ret2
        exact ⟨by first | rfl | (simp [errW_none, errW_some] <;> rfl) | (simp [*, errW_none, errW_some] <;> rfl), by repeat (first | (with_reducible first | exact HB.out | apply below_alloc | apply pw_below_drewN | apply below_drew1) | exact HB.out)⟩
      · replace c5 := Bool.eq_false_iff.mpr c5
        subst c5
        have H1 : (if a1 < (-1439) then (larderref03_PrintInstant.j1 kj2 a0 a1 true) else (larderref03_PrintInstant.j1 kj2 a0 a1 (decide (a1 > 1439)))) = some (r1, r2) := by rw [if_neg (show ¬ (false = true) by decide)] at H; exact H
        clear H
        have H := H1
        clear H1
        have HC6 := Aside0.mk H
        clear H
        go_upto_region 3 with (fail)
        go_cut [21] (fun v21 wc => ∃ (kq : Nat) (x21_5 : Bool), v21 = .bool x21_5 ∧ Aside0 (larderref03_PrintInstant.j1 kq a0 a1 x21_5 = some (r1, r2)) ∧ Aside0 (kq ≤ kj2) ∧ Aside0 (Below w.heap.size w wc))
        case first =>
          have H := HC6.out
          clear HC6
          by_cases c7 : a1 < (-1439)
          · rw [if_pos c7] at H
            have c7b0 : decide (a1 < (-1439)) = true := decide_eq_true c7
            clear c7
            (first | rw [c7b0] | (simp only [i64_w, i32_w]; rw [c7b0]) | skip)
            have H' := Aside0.mk H
            clear H
            go_wp2
            go_meet
            case rel => exact ⟨_, (true), (by first | rfl | (simp; done) | (simp [*]; done)), H', ⟨by have := HJ2.out; first | omega | exact Nat.le_refl _⟩, ⟨by repeat (first | (with_reducible first | exact HB.out | apply below_alloc | apply pw_below_drewN | apply below_drew1) | exact HB.out)⟩⟩
          · rw [if_neg c7] at H
            have c7b0 : decide (a1 < (-1439)) = false := decide_eq_false c7
            clear c7
            (first | rw [c7b0] | (simp only [i64_w, i32_w]; rw [c7b0]) | skip)
            have H' := Aside0.mk H
            clear H
            go_wp2
            go_meet
            case rel => exact ⟨_, (decide (a1 > 1439)), (by first | rfl | (simp; done) | (simp [*]; done)), H', ⟨by have := HJ2.out; first | omega | exact Nat.le_refl _⟩, ⟨by repeat (first | (with_reducible first | exact HB.out | apply below_alloc | apply pw_below_drewN | apply below_drew1) | exact HB.out)⟩⟩
        case rest =>
          clear HC6
          try clear c2
          try clear p2
          try clear c4
          try clear c4b0
          try clear c5
          try clear c7
          try clear c7b0
          try clear p2
          obtain ⟨kq, x21_5, rfl, HA, HJ5, HB⟩ := hcut
          cases kq with
          | zero => exact absurd HA.out (by simp [larderref03_PrintInstant.j1])
          | succ kj5 =>
            have H := HA.out
            clear HA
            simp only [larderref03_PrintInstant.j1] at H
            by_cases c8 : x21_5 = true
            · subst c8
              have H1 : (some ((⟨#[]⟩ : ByteArray), 33)) = some (r1, r2) := by rw [if_pos rfl] at H; exact H
              clear H
              have H := H1
              clear H1
              simp only [Option.some.injEq, Prod.mk.injEq] at H
              obtain ⟨rfl, rfl⟩ := H
              go_wp2
              go_ret2
              exact ⟨by first | rfl | (simp [errW_none, errW_some] <;> rfl) | (simp [*, errW_none, errW_some] <;> rfl), by repeat (first | (with_reducible first | exact HB.out | apply below_alloc | apply pw_below_drewN | apply below_drew1) | exact HB.out)⟩
            · replace c8 := Bool.eq_false_iff.mpr c8
              subst c8
              have H1 : (if (wrap64 (a0 + (wrap64 (60 * a1)))) < 0 then (larderref03_PrintInstant.j2 kj5 a1 (wrap64 (a0 + (wrap64 (60 * a1)))) true) else (larderref03_PrintInstant.j2 kj5 a1 (wrap64 (a0 + (wrap64 (60 * a1)))) (decide ((wrap64 (a0 + (wrap64 (60 * a1)))) > 315569519999)))) = some (r1, r2) := by rw [if_neg (show ¬ (false = true) by decide)] at H; exact H
              clear H
              have H := H1
              clear H1
              have HC9 := Aside0.mk H
              clear H
              go_upto_region 6 with (fail)
              go_cut [31] (fun v31 wc => ∃ (kq : Nat) (x31_8 : Bool), v31 = .bool x31_8 ∧ Aside0 (larderref03_PrintInstant.j2 kq a1 (wrap64 (a0 + (wrap64 (60 * a1)))) x31_8 = some (r1, r2)) ∧ Aside0 (kq ≤ kj5) ∧ Aside0 (Below w.heap.size w wc))
              case first =>
                have H := HC9.out
                clear HC9
                by_cases c10 : (wrap64 (a0 + (wrap64 (60 * a1)))) < 0
                · rw [if_pos c10] at H
                  have c10b0 : decide ((wrap64 (a0 + (wrap64 (60 * a1)))) < 0) = true := decide_eq_true c10
                  clear c10
                  (first | rw [c10b0] | (simp only [i64_w, i32_w]; rw [c10b0]) | skip)
                  have H' := Aside0.mk H
                  clear H
                  go_wp2
                  go_meet
                  case rel => exact ⟨_, (true), (by first | rfl | (simp; done) | (simp [*]; done)), H', ⟨by have := HJ2.out; have := HJ5.out; first | omega | exact Nat.le_refl _⟩, ⟨by repeat (first | (with_reducible first | exact HB.out | apply below_alloc | apply pw_below_drewN | apply below_drew1) | exact HB.out)⟩⟩
                · rw [if_neg c10] at H
                  have c10b0 : decide ((wrap64 (a0 + (wrap64 (60 * a1)))) < 0) = false := decide_eq_false c10
                  clear c10
                  (first | rw [c10b0] | (simp only [i64_w, i32_w]; rw [c10b0]) | skip)
                  have H' := Aside0.mk H
                  clear H
                  go_wp2
                  go_meet
                  case rel => exact ⟨_, (decide ((wrap64 (a0 + (wrap64 (60 * a1)))) > 315569519999)), (by first | rfl | (simp; done) | (simp [*]; done)), H', ⟨by have := HJ2.out; have := HJ5.out; first | omega | exact Nat.le_refl _⟩, ⟨by repeat (first | (with_reducible first | exact HB.out | apply below_alloc | apply pw_below_drewN | apply below_drew1) | exact HB.out)⟩⟩
              case rest =>
                clear HC9
                try clear c1
                try clear c2
                try clear p2
                try clear c4
                try clear c4b0
                try clear c5
                try clear p6
                try clear c7
                try clear c7b0
                try clear c8
                try clear c10
                try clear c10b0
                try clear p2
                obtain ⟨kq, x31_8, rfl, HA, HJ8, HB⟩ := hcut
                cases kq with
                | zero => exact absurd HA.out (by simp [larderref03_PrintInstant.j2])
                | succ kj8 =>
                  have H := HA.out
                  clear HA
                  simp only [larderref03_PrintInstant.j2] at H
                  by_cases c11 : x31_8 = true
                  · subst c11
                    have H1 : (some ((⟨#[]⟩ : ByteArray), 35)) = some (r1, r2) := by rw [if_pos rfl] at H; exact H
                    clear H
                    have H := H1
                    clear H1
                    simp only [Option.some.injEq, Prod.mk.injEq] at H
                    obtain ⟨rfl, rfl⟩ := H
                    go_wp2
                    go_ret2
                    exact ⟨by first | rfl | (simp [errW_none, errW_some] <;> rfl) | (simp [*, errW_none, errW_some] <;> rfl), by repeat (first | (with_reducible first | exact HB.out | apply below_alloc | apply pw_below_drewN | apply below_drew1) | exact HB.out)⟩
                  · replace c11 := Bool.eq_false_iff.mpr c11
                    subst c11
                    have H1 : ((larderref03_date.f kj8 (wrap64 (Int.tdiv (wrap64 (a0 + (wrap64 (60 * a1)))) 86400))).bind fun bt200101 => ((larderref03_PrintDate.f kj8 bt200101.1 bt200101.2.1 bt200101.2.2 0).bind fun bt200104 => (if bt200104.1.size + 1 ≤ 9223372036854775807 then ((larderref03_pad.f kj8 (wrap64 (Int.tdiv (Int.tmod (wrap64 (a0 + (wrap64 (60 * a1)))) 86400) 3600)) 2).bind fun t200106 => (if bt200104.1.size + 1 + t200106.size ≤ 9223372036854775807 then (if bt200104.1.size + 1 + t200106.size + 1 ≤ 9223372036854775807 then ((larderref03_pad.f kj8 (Int.tmod (wrap64 (Int.tdiv (Int.tmod (wrap64 (a0 + (wrap64 (60 * a1)))) 86400) 60)) 60) 2).bind fun t200107 => (if bt200104.1.size + 1 + t200106.size + 1 + t200107.size ≤ 9223372036854775807 then (if bt200104.1.size + 1 + t200106.size + 1 + t200107.size + 1 ≤ 9223372036854775807 then ((larderref03_pad.f kj8 (Int.tmod (Int.tmod (wrap64 (a0 + (wrap64 (60 * a1)))) 86400) 60) 2).bind fun t200108 => (if bt200104.1.size + 1 + t200106.size + 1 + t200107.size + 1 + t200108.size ≤ 9223372036854775807 then (if a1 = 0 then (if bt200104.1.size + 1 + t200106.size + 1 + t200107.size + 1 + t200108.size + 1 ≤ 9223372036854775807 then (some (((((((bt200104.1 ++ (⟨#[84]⟩ : ByteArray)) ++ t200106) ++ (⟨#[58]⟩ : ByteArray)) ++ t200107) ++ (⟨#[58]⟩ : ByteArray)) ++ t200108) ++ (⟨#[90]⟩ : ByteArray), 0)) else (none)) else (if a1 < 0 then (if bt200104.1.size + 1 + t200106.size + 1 + t200107.size + 1 + t200108.size + 1 ≤ 9223372036854775807 then ((larderref03_pad.f kj8 (wrap64 (Int.tdiv (wrap64 (-a1)) 60)) 2).bind fun t200109 => (if bt200104.1.size + 1 + t200106.size + 1 + t200107.size + 1 + t200108.size + 1 + t200109.size ≤ 9223372036854775807 then (if bt200104.1.size + 1 + t200106.size + 1 + t200107.size + 1 + t200108.size + 1 + t200109.size + 1 ≤ 9223372036854775807 then ((larderref03_pad.f kj8 (Int.tmod (wrap64 (-a1)) 60) 2).bind fun t200110 => (if bt200104.1.size + 1 + t200106.size + 1 + t200107.size + 1 + t200108.size + 1 + t200109.size + 1 + t200110.size ≤ 9223372036854775807 then (some ((((((((((bt200104.1 ++ (⟨#[84]⟩ : ByteArray)) ++ t200106) ++ (⟨#[58]⟩ : ByteArray)) ++ t200107) ++ (⟨#[58]⟩ : ByteArray)) ++ t200108) ++ (⟨#[45]⟩ : ByteArray)) ++ t200109) ++ (⟨#[58]⟩ : ByteArray)) ++ t200110, 0)) else (none))) else (none)) else (none))) else (none)) else (if bt200104.1.size + 1 + t200106.size + 1 + t200107.size + 1 + t200108.size + 1 ≤ 9223372036854775807 then ((larderref03_pad.f kj8 (wrap64 (Int.tdiv a1 60)) 2).bind fun t200111 => (if bt200104.1.size + 1 + t200106.size + 1 + t200107.size + 1 + t200108.size + 1 + t200111.size ≤ 9223372036854775807 then (if bt200104.1.size + 1 + t200106.size + 1 + t200107.size + 1 + t200108.size + 1 + t200111.size + 1 ≤ 9223372036854775807 then ((larderref03_pad.f kj8 (Int.tmod a1 60) 2).bind fun t200112 => (if bt200104.1.size + 1 + t200106.size + 1 + t200107.size + 1 + t200108.size + 1 + t200111.size + 1 + t200112.size ≤ 9223372036854775807 then (some ((((((((((bt200104.1 ++ (⟨#[84]⟩ : ByteArray)) ++ t200106) ++ (⟨#[58]⟩ : ByteArray)) ++ t200107) ++ (⟨#[58]⟩ : ByteArray)) ++ t200108) ++ (⟨#[43]⟩ : ByteArray)) ++ t200111) ++ (⟨#[58]⟩ : ByteArray)) ++ t200112, 0)) else (none))) else (none)) else (none))) else (none)))) else (none))) else (none)) else (none))) else (none)) else (none))) else (none)))) = some (r1, r2) := by rw [if_neg (show ¬ (false = true) by decide)] at H; exact H
                    clear H
                    have H := H1
                    clear H1
                    replace H := Option.bind_eq_some_iff.mp H
                    obtain ⟨⟨t200101, t200102, t200103⟩, A120, H⟩ := H
                    replace H : ((larderref03_PrintDate.f kj8 t200101 t200102 t200103 0).bind fun bt200104 => (if bt200104.1.size + 1 ≤ 9223372036854775807 then ((larderref03_pad.f kj8 (wrap64 (Int.tdiv (Int.tmod (wrap64 (a0 + (wrap64 (60 * a1)))) 86400) 3600)) 2).bind fun t200106 => (if bt200104.1.size + 1 + t200106.size ≤ 9223372036854775807 then (if bt200104.1.size + 1 + t200106.size + 1 ≤ 9223372036854775807 then ((larderref03_pad.f kj8 (Int.tmod (wrap64 (Int.tdiv (Int.tmod (wrap64 (a0 + (wrap64 (60 * a1)))) 86400) 60)) 60) 2).bind fun t200107 => (if bt200104.1.size + 1 + t200106.size + 1 + t200107.size ≤ 9223372036854775807 then (if bt200104.1.size + 1 + t200106.size + 1 + t200107.size + 1 ≤ 9223372036854775807 then ((larderref03_pad.f kj8 (Int.tmod (Int.tmod (wrap64 (a0 + (wrap64 (60 * a1)))) 86400) 60) 2).bind fun t200108 => (if bt200104.1.size + 1 + t200106.size + 1 + t200107.size + 1 + t200108.size ≤ 9223372036854775807 then (if a1 = 0 then (if bt200104.1.size + 1 + t200106.size + 1 + t200107.size + 1 + t200108.size + 1 ≤ 9223372036854775807 then (some (((((((bt200104.1 ++ (⟨#[84]⟩ : ByteArray)) ++ t200106) ++ (⟨#[58]⟩ : ByteArray)) ++ t200107) ++ (⟨#[58]⟩ : ByteArray)) ++ t200108) ++ (⟨#[90]⟩ : ByteArray), 0)) else (none)) else (if a1 < 0 then (if bt200104.1.size + 1 + t200106.size + 1 + t200107.size + 1 + t200108.size + 1 ≤ 9223372036854775807 then ((larderref03_pad.f kj8 (wrap64 (Int.tdiv (wrap64 (-a1)) 60)) 2).bind fun t200109 => (if bt200104.1.size + 1 + t200106.size + 1 + t200107.size + 1 + t200108.size + 1 + t200109.size ≤ 9223372036854775807 then (if bt200104.1.size + 1 + t200106.size + 1 + t200107.size + 1 + t200108.size + 1 + t200109.size + 1 ≤ 9223372036854775807 then ((larderref03_pad.f kj8 (Int.tmod (wrap64 (-a1)) 60) 2).bind fun t200110 => (if bt200104.1.size + 1 + t200106.size + 1 + t200107.size + 1 + t200108.size + 1 + t200109.size + 1 + t200110.size ≤ 9223372036854775807 then (some ((((((((((bt200104.1 ++ (⟨#[84]⟩ : ByteArray)) ++ t200106) ++ (⟨#[58]⟩ : ByteArray)) ++ t200107) ++ (⟨#[58]⟩ : ByteArray)) ++ t200108) ++ (⟨#[45]⟩ : ByteArray)) ++ t200109) ++ (⟨#[58]⟩ : ByteArray)) ++ t200110, 0)) else (none))) else (none)) else (none))) else (none)) else (if bt200104.1.size + 1 + t200106.size + 1 + t200107.size + 1 + t200108.size + 1 ≤ 9223372036854775807 then ((larderref03_pad.f kj8 (wrap64 (Int.tdiv a1 60)) 2).bind fun t200111 => (if bt200104.1.size + 1 + t200106.size + 1 + t200107.size + 1 + t200108.size + 1 + t200111.size ≤ 9223372036854775807 then (if bt200104.1.size + 1 + t200106.size + 1 + t200107.size + 1 + t200108.size + 1 + t200111.size + 1 ≤ 9223372036854775807 then ((larderref03_pad.f kj8 (Int.tmod a1 60) 2).bind fun t200112 => (if bt200104.1.size + 1 + t200106.size + 1 + t200107.size + 1 + t200108.size + 1 + t200111.size + 1 + t200112.size ≤ 9223372036854775807 then (some ((((((((((bt200104.1 ++ (⟨#[84]⟩ : ByteArray)) ++ t200106) ++ (⟨#[58]⟩ : ByteArray)) ++ t200107) ++ (⟨#[58]⟩ : ByteArray)) ++ t200108) ++ (⟨#[43]⟩ : ByteArray)) ++ t200111) ++ (⟨#[58]⟩ : ByteArray)) ++ t200112, 0)) else (none))) else (none)) else (none))) else (none)))) else (none))) else (none)) else (none))) else (none)) else (none))) else (none))) = some (r1, r2) := H
                    try rw [Int.tmod_tmod_of_dvd _ (by decide)] at A120
                    have A12 := Aside0.mk A120
                    clear A120
                    replace H := Option.bind_eq_some_iff.mp H
                    obtain ⟨⟨t200104, t200105⟩, A130, H⟩ := H
                    replace H : (if t200104.size + 1 ≤ 9223372036854775807 then ((larderref03_pad.f kj8 (wrap64 (Int.tdiv (Int.tmod (wrap64 (a0 + (wrap64 (60 * a1)))) 86400) 3600)) 2).bind fun t200106 => (if t200104.size + 1 + t200106.size ≤ 9223372036854775807 then (if t200104.size + 1 + t200106.size + 1 ≤ 9223372036854775807 then ((larderref03_pad.f kj8 (Int.tmod (wrap64 (Int.tdiv (Int.tmod (wrap64 (a0 + (wrap64 (60 * a1)))) 86400) 60)) 60) 2).bind fun t200107 => (if t200104.size + 1 + t200106.size + 1 + t200107.size ≤ 9223372036854775807 then (if t200104.size + 1 + t200106.size + 1 + t200107.size + 1 ≤ 9223372036854775807 then ((larderref03_pad.f kj8 (Int.tmod (Int.tmod (wrap64 (a0 + (wrap64 (60 * a1)))) 86400) 60) 2).bind fun t200108 => (if t200104.size + 1 + t200106.size + 1 + t200107.size + 1 + t200108.size ≤ 9223372036854775807 then (if a1 = 0 then (if t200104.size + 1 + t200106.size + 1 + t200107.size + 1 + t200108.size + 1 ≤ 9223372036854775807 then (some (((((((t200104 ++ (⟨#[84]⟩ : ByteArray)) ++ t200106) ++ (⟨#[58]⟩ : ByteArray)) ++ t200107) ++ (⟨#[58]⟩ : ByteArray)) ++ t200108) ++ (⟨#[90]⟩ : ByteArray), 0)) else (none)) else (if a1 < 0 then (if t200104.size + 1 + t200106.size + 1 + t200107.size + 1 + t200108.size + 1 ≤ 9223372036854775807 then ((larderref03_pad.f kj8 (wrap64 (Int.tdiv (wrap64 (-a1)) 60)) 2).bind fun t200109 => (if t200104.size + 1 + t200106.size + 1 + t200107.size + 1 + t200108.size + 1 + t200109.size ≤ 9223372036854775807 then (if t200104.size + 1 + t200106.size + 1 + t200107.size + 1 + t200108.size + 1 + t200109.size + 1 ≤ 9223372036854775807 then ((larderref03_pad.f kj8 (Int.tmod (wrap64 (-a1)) 60) 2).bind fun t200110 => (if t200104.size + 1 + t200106.size + 1 + t200107.size + 1 + t200108.size + 1 + t200109.size + 1 + t200110.size ≤ 9223372036854775807 then (some ((((((((((t200104 ++ (⟨#[84]⟩ : ByteArray)) ++ t200106) ++ (⟨#[58]⟩ : ByteArray)) ++ t200107) ++ (⟨#[58]⟩ : ByteArray)) ++ t200108) ++ (⟨#[45]⟩ : ByteArray)) ++ t200109) ++ (⟨#[58]⟩ : ByteArray)) ++ t200110, 0)) else (none))) else (none)) else (none))) else (none)) else (if t200104.size + 1 + t200106.size + 1 + t200107.size + 1 + t200108.size + 1 ≤ 9223372036854775807 then ((larderref03_pad.f kj8 (wrap64 (Int.tdiv a1 60)) 2).bind fun t200111 => (if t200104.size + 1 + t200106.size + 1 + t200107.size + 1 + t200108.size + 1 + t200111.size ≤ 9223372036854775807 then (if t200104.size + 1 + t200106.size + 1 + t200107.size + 1 + t200108.size + 1 + t200111.size + 1 ≤ 9223372036854775807 then ((larderref03_pad.f kj8 (Int.tmod a1 60) 2).bind fun t200112 => (if t200104.size + 1 + t200106.size + 1 + t200107.size + 1 + t200108.size + 1 + t200111.size + 1 + t200112.size ≤ 9223372036854775807 then (some ((((((((((t200104 ++ (⟨#[84]⟩ : ByteArray)) ++ t200106) ++ (⟨#[58]⟩ : ByteArray)) ++ t200107) ++ (⟨#[58]⟩ : ByteArray)) ++ t200108) ++ (⟨#[43]⟩ : ByteArray)) ++ t200111) ++ (⟨#[58]⟩ : ByteArray)) ++ t200112, 0)) else (none))) else (none)) else (none))) else (none)))) else (none))) else (none)) else (none))) else (none)) else (none))) else (none)) = some (r1, r2) := H
                    try rw [Int.tmod_tmod_of_dvd _ (by decide)] at A130
                    have A13 := Aside0.mk A130
                    clear A130
                    by_cases c14 : t200104.size + 1 ≤ 9223372036854775807
                    · rw [if_pos c14] at H
                      have c14b0 := eq_true c14
                      have c14b1 : decide (t200104.size + 1 ≤ 9223372036854775807) = true := decide_eq_true c14
                      try have c14b2 : (9223372036854775807 < t200104.size + 1) = False := eq_false (Nat.not_lt.2 c14)
                      replace H := Option.bind_eq_some_iff.mp H
                      obtain ⟨t200106, A150, H⟩ := H
                      replace H : (if t200104.size + 1 + t200106.size ≤ 9223372036854775807 then (if t200104.size + 1 + t200106.size + 1 ≤ 9223372036854775807 then ((larderref03_pad.f kj8 (Int.tmod (wrap64 (Int.tdiv (Int.tmod (wrap64 (a0 + (wrap64 (60 * a1)))) 86400) 60)) 60) 2).bind fun t200107 => (if t200104.size + 1 + t200106.size + 1 + t200107.size ≤ 9223372036854775807 then (if t200104.size + 1 + t200106.size + 1 + t200107.size + 1 ≤ 9223372036854775807 then ((larderref03_pad.f kj8 (Int.tmod (Int.tmod (wrap64 (a0 + (wrap64 (60 * a1)))) 86400) 60) 2).bind fun t200108 => (if t200104.size + 1 + t200106.size + 1 + t200107.size + 1 + t200108.size ≤ 9223372036854775807 then (if a1 = 0 then (if t200104.size + 1 + t200106.size + 1 + t200107.size + 1 + t200108.size + 1 ≤ 9223372036854775807 then (some (((((((t200104 ++ (⟨#[84]⟩ : ByteArray)) ++ t200106) ++ (⟨#[58]⟩ : ByteArray)) ++ t200107) ++ (⟨#[58]⟩ : ByteArray)) ++ t200108) ++ (⟨#[90]⟩ : ByteArray), 0)) else (none)) else (if a1 < 0 then (if t200104.size + 1 + t200106.size + 1 + t200107.size + 1 + t200108.size + 1 ≤ 9223372036854775807 then ((larderref03_pad.f kj8 (wrap64 (Int.tdiv (wrap64 (-a1)) 60)) 2).bind fun t200109 => (if t200104.size + 1 + t200106.size + 1 + t200107.size + 1 + t200108.size + 1 + t200109.size ≤ 9223372036854775807 then (if t200104.size + 1 + t200106.size + 1 + t200107.size + 1 + t200108.size + 1 + t200109.size + 1 ≤ 9223372036854775807 then ((larderref03_pad.f kj8 (Int.tmod (wrap64 (-a1)) 60) 2).bind fun t200110 => (if t200104.size + 1 + t200106.size + 1 + t200107.size + 1 + t200108.size + 1 + t200109.size + 1 + t200110.size ≤ 9223372036854775807 then (some ((((((((((t200104 ++ (⟨#[84]⟩ : ByteArray)) ++ t200106) ++ (⟨#[58]⟩ : ByteArray)) ++ t200107) ++ (⟨#[58]⟩ : ByteArray)) ++ t200108) ++ (⟨#[45]⟩ : ByteArray)) ++ t200109) ++ (⟨#[58]⟩ : ByteArray)) ++ t200110, 0)) else (none))) else (none)) else (none))) else (none)) else (if t200104.size + 1 + t200106.size + 1 + t200107.size + 1 + t200108.size + 1 ≤ 9223372036854775807 then ((larderref03_pad.f kj8 (wrap64 (Int.tdiv a1 60)) 2).bind fun t200111 => (if t200104.size + 1 + t200106.size + 1 + t200107.size + 1 + t200108.size + 1 + t200111.size ≤ 9223372036854775807 then (if t200104.size + 1 + t200106.size + 1 + t200107.size + 1 + t200108.size + 1 + t200111.size + 1 ≤ 9223372036854775807 then ((larderref03_pad.f kj8 (Int.tmod a1 60) 2).bind fun t200112 => (if t200104.size + 1 + t200106.size + 1 + t200107.size + 1 + t200108.size + 1 + t200111.size + 1 + t200112.size ≤ 9223372036854775807 then (some ((((((((((t200104 ++ (⟨#[84]⟩ : ByteArray)) ++ t200106) ++ (⟨#[58]⟩ : ByteArray)) ++ t200107) ++ (⟨#[58]⟩ : ByteArray)) ++ t200108) ++ (⟨#[43]⟩ : ByteArray)) ++ t200111) ++ (⟨#[58]⟩ : ByteArray)) ++ t200112, 0)) else (none))) else (none)) else (none))) else (none)))) else (none))) else (none)) else (none))) else (none)) else (none)) = some (r1, r2) := H
                      try rw [Int.tmod_tmod_of_dvd _ (by decide)] at A150
                      have A15 := Aside0.mk A150
                      clear A150
                      by_cases c16 : t200104.size + 1 + t200106.size ≤ 9223372036854775807
                      · rw [if_pos c16] at H
                        have c16b0 := eq_true c16
                        have c16b1 : decide (t200104.size + 1 + t200106.size ≤ 9223372036854775807) = true := decide_eq_true c16
                        try have c16b2 : (9223372036854775807 < t200104.size + 1 + t200106.size) = False := eq_false (Nat.not_lt.2 c16)
                        by_cases c17 : t200104.size + 1 + t200106.size + 1 ≤ 9223372036854775807
                        · rw [if_pos c17] at H
                          have c17b0 := eq_true c17
                          have c17b1 : decide (t200104.size + 1 + t200106.size + 1 ≤ 9223372036854775807) = true := decide_eq_true c17
                          try have c17b2 : (9223372036854775807 < t200104.size + 1 + t200106.size + 1) = False := eq_false (Nat.not_lt.2 c17)
                          replace H := Option.bind_eq_some_iff.mp H
                          obtain ⟨t200107, A180, H⟩ := H
                          replace H : (if t200104.size + 1 + t200106.size + 1 + t200107.size ≤ 9223372036854775807 then (if t200104.size + 1 + t200106.size + 1 + t200107.size + 1 ≤ 9223372036854775807 then ((larderref03_pad.f kj8 (Int.tmod (Int.tmod (wrap64 (a0 + (wrap64 (60 * a1)))) 86400) 60) 2).bind fun t200108 => (if t200104.size + 1 + t200106.size + 1 + t200107.size + 1 + t200108.size ≤ 9223372036854775807 then (if a1 = 0 then (if t200104.size + 1 + t200106.size + 1 + t200107.size + 1 + t200108.size + 1 ≤ 9223372036854775807 then (some (((((((t200104 ++ (⟨#[84]⟩ : ByteArray)) ++ t200106) ++ (⟨#[58]⟩ : ByteArray)) ++ t200107) ++ (⟨#[58]⟩ : ByteArray)) ++ t200108) ++ (⟨#[90]⟩ : ByteArray), 0)) else (none)) else (if a1 < 0 then (if t200104.size + 1 + t200106.size + 1 + t200107.size + 1 + t200108.size + 1 ≤ 9223372036854775807 then ((larderref03_pad.f kj8 (wrap64 (Int.tdiv (wrap64 (-a1)) 60)) 2).bind fun t200109 => (if t200104.size + 1 + t200106.size + 1 + t200107.size + 1 + t200108.size + 1 + t200109.size ≤ 9223372036854775807 then (if t200104.size + 1 + t200106.size + 1 + t200107.size + 1 + t200108.size + 1 + t200109.size + 1 ≤ 9223372036854775807 then ((larderref03_pad.f kj8 (Int.tmod (wrap64 (-a1)) 60) 2).bind fun t200110 => (if t200104.size + 1 + t200106.size + 1 + t200107.size + 1 + t200108.size + 1 + t200109.size + 1 + t200110.size ≤ 9223372036854775807 then (some ((((((((((t200104 ++ (⟨#[84]⟩ : ByteArray)) ++ t200106) ++ (⟨#[58]⟩ : ByteArray)) ++ t200107) ++ (⟨#[58]⟩ : ByteArray)) ++ t200108) ++ (⟨#[45]⟩ : ByteArray)) ++ t200109) ++ (⟨#[58]⟩ : ByteArray)) ++ t200110, 0)) else (none))) else (none)) else (none))) else (none)) else (if t200104.size + 1 + t200106.size + 1 + t200107.size + 1 + t200108.size + 1 ≤ 9223372036854775807 then ((larderref03_pad.f kj8 (wrap64 (Int.tdiv a1 60)) 2).bind fun t200111 => (if t200104.size + 1 + t200106.size + 1 + t200107.size + 1 + t200108.size + 1 + t200111.size ≤ 9223372036854775807 then (if t200104.size + 1 + t200106.size + 1 + t200107.size + 1 + t200108.size + 1 + t200111.size + 1 ≤ 9223372036854775807 then ((larderref03_pad.f kj8 (Int.tmod a1 60) 2).bind fun t200112 => (if t200104.size + 1 + t200106.size + 1 + t200107.size + 1 + t200108.size + 1 + t200111.size + 1 + t200112.size ≤ 9223372036854775807 then (some ((((((((((t200104 ++ (⟨#[84]⟩ : ByteArray)) ++ t200106) ++ (⟨#[58]⟩ : ByteArray)) ++ t200107) ++ (⟨#[58]⟩ : ByteArray)) ++ t200108) ++ (⟨#[43]⟩ : ByteArray)) ++ t200111) ++ (⟨#[58]⟩ : ByteArray)) ++ t200112, 0)) else (none))) else (none)) else (none))) else (none)))) else (none))) else (none)) else (none)) = some (r1, r2) := H
                          try rw [Int.tmod_tmod_of_dvd _ (by decide)] at A180
                          have A18 := Aside0.mk A180
                          clear A180
                          by_cases c19 : t200104.size + 1 + t200106.size + 1 + t200107.size ≤ 9223372036854775807
                          · rw [if_pos c19] at H
                            have c19b0 := eq_true c19
                            have c19b1 : decide (t200104.size + 1 + t200106.size + 1 + t200107.size ≤ 9223372036854775807) = true := decide_eq_true c19
                            try have c19b2 : (9223372036854775807 < t200104.size + 1 + t200106.size + 1 + t200107.size) = False := eq_false (Nat.not_lt.2 c19)
                            by_cases c20 : t200104.size + 1 + t200106.size + 1 + t200107.size + 1 ≤ 9223372036854775807
                            · rw [if_pos c20] at H
                              have c20b0 := eq_true c20
                              have c20b1 : decide (t200104.size + 1 + t200106.size + 1 + t200107.size + 1 ≤ 9223372036854775807) = true := decide_eq_true c20
                              try have c20b2 : (9223372036854775807 < t200104.size + 1 + t200106.size + 1 + t200107.size + 1) = False := eq_false (Nat.not_lt.2 c20)
                              replace H := Option.bind_eq_some_iff.mp H
                              obtain ⟨t200108, A210, H⟩ := H
                              replace H : (if t200104.size + 1 + t200106.size + 1 + t200107.size + 1 + t200108.size ≤ 9223372036854775807 then (if a1 = 0 then (if t200104.size + 1 + t200106.size + 1 + t200107.size + 1 + t200108.size + 1 ≤ 9223372036854775807 then (some (((((((t200104 ++ (⟨#[84]⟩ : ByteArray)) ++ t200106) ++ (⟨#[58]⟩ : ByteArray)) ++ t200107) ++ (⟨#[58]⟩ : ByteArray)) ++ t200108) ++ (⟨#[90]⟩ : ByteArray), 0)) else (none)) else (if a1 < 0 then (if t200104.size + 1 + t200106.size + 1 + t200107.size + 1 + t200108.size + 1 ≤ 9223372036854775807 then ((larderref03_pad.f kj8 (wrap64 (Int.tdiv (wrap64 (-a1)) 60)) 2).bind fun t200109 => (if t200104.size + 1 + t200106.size + 1 + t200107.size + 1 + t200108.size + 1 + t200109.size ≤ 9223372036854775807 then (if t200104.size + 1 + t200106.size + 1 + t200107.size + 1 + t200108.size + 1 + t200109.size + 1 ≤ 9223372036854775807 then ((larderref03_pad.f kj8 (Int.tmod (wrap64 (-a1)) 60) 2).bind fun t200110 => (if t200104.size + 1 + t200106.size + 1 + t200107.size + 1 + t200108.size + 1 + t200109.size + 1 + t200110.size ≤ 9223372036854775807 then (some ((((((((((t200104 ++ (⟨#[84]⟩ : ByteArray)) ++ t200106) ++ (⟨#[58]⟩ : ByteArray)) ++ t200107) ++ (⟨#[58]⟩ : ByteArray)) ++ t200108) ++ (⟨#[45]⟩ : ByteArray)) ++ t200109) ++ (⟨#[58]⟩ : ByteArray)) ++ t200110, 0)) else (none))) else (none)) else (none))) else (none)) else (if t200104.size + 1 + t200106.size + 1 + t200107.size + 1 + t200108.size + 1 ≤ 9223372036854775807 then ((larderref03_pad.f kj8 (wrap64 (Int.tdiv a1 60)) 2).bind fun t200111 => (if t200104.size + 1 + t200106.size + 1 + t200107.size + 1 + t200108.size + 1 + t200111.size ≤ 9223372036854775807 then (if t200104.size + 1 + t200106.size + 1 + t200107.size + 1 + t200108.size + 1 + t200111.size + 1 ≤ 9223372036854775807 then ((larderref03_pad.f kj8 (Int.tmod a1 60) 2).bind fun t200112 => (if t200104.size + 1 + t200106.size + 1 + t200107.size + 1 + t200108.size + 1 + t200111.size + 1 + t200112.size ≤ 9223372036854775807 then (some ((((((((((t200104 ++ (⟨#[84]⟩ : ByteArray)) ++ t200106) ++ (⟨#[58]⟩ : ByteArray)) ++ t200107) ++ (⟨#[58]⟩ : ByteArray)) ++ t200108) ++ (⟨#[43]⟩ : ByteArray)) ++ t200111) ++ (⟨#[58]⟩ : ByteArray)) ++ t200112, 0)) else (none))) else (none)) else (none))) else (none)))) else (none)) = some (r1, r2) := H
                              try rw [Int.tmod_tmod_of_dvd _ (by decide)] at A210
                              have A21 := Aside0.mk A210
                              clear A210
                              by_cases c22 : t200104.size + 1 + t200106.size + 1 + t200107.size + 1 + t200108.size ≤ 9223372036854775807
                              · rw [if_pos c22] at H
                                have c22b0 := eq_true c22
                                have c22b1 : decide (t200104.size + 1 + t200106.size + 1 + t200107.size + 1 + t200108.size ≤ 9223372036854775807) = true := decide_eq_true c22
                                try have c22b2 : (9223372036854775807 < t200104.size + 1 + t200106.size + 1 + t200107.size + 1 + t200108.size) = False := eq_false (Nat.not_lt.2 c22)
                                by_cases c23 : a1 = 0
                                · rw [if_pos c23] at H
                                  have c23b0 : (a1 == 0) = true := beq_iff_eq.mpr c23
                                  have c23b1 : (a1 != 0) = false := bne_eq_false_iff_eq.mpr c23
                                  clear c23
                                  by_cases c24 : t200104.size + 1 + t200106.size + 1 + t200107.size + 1 + t200108.size + 1 ≤ 9223372036854775807
                                  · rw [if_pos c24] at H
                                    have c24b0 := eq_true c24
                                    have c24b1 : decide (t200104.size + 1 + t200106.size + 1 + t200107.size + 1 + t200108.size + 1 ≤ 9223372036854775807) = true := decide_eq_true c24
                                    try have c24b2 : (9223372036854775807 < t200104.size + 1 + t200106.size + 1 + t200107.size + 1 + t200108.size + 1) = False := eq_false (Nat.not_lt.2 c24)
                                    simp only [Option.some.injEq, Prod.mk.injEq] at H
                                    obtain ⟨rfl, rfl⟩ := H
                                    go_wp2_with (first | ((with_reducible refine gate_callee (f := 40) rfl ?_); refine goesL_ (some 35) rfl rfl Tryd.func40 (by kernel_rfl) rfl #[.int .i64 (wrap64 (Int.tdiv (wrap64 (a0 + (wrap64 (60 * a1)))) 86400))] rfl (by (try simp only [List.map_toArray, List.map_cons, List.map_nil]); first | done | rfl | (simp only [List.length_drop, List.length_take]; rfl)) ?_; (with_reducible refine (larderref03_date.calls kj8 (wrap64 (Int.tdiv (wrap64 (a0 + (wrap64 (60 * a1)))) 86400)) t200101 t200102 t200103 _ A12.out).mono ?_); rintro e w25 ⟨rfl, hb⟩; refine ⟨_, rfl, ?_⟩; have n0_ := Aside0.mk (below_step (by repeat (first | (with_reducible first | exact HB.out | apply below_alloc | apply pw_below_drewN | apply below_drew1) | exact HB.out)) hb); clear HB; have HB := n0_; clear n0_; (try clear hb); (try clear hb2); (try clear hk); (try clear hi)) | ((with_reducible refine gate_callee (f := 39) rfl ?_); refine goesL_ (some 36) rfl rfl Tryd.func39 (by kernel_rfl) rfl #[.agg #[.int .i64 t200101, .int .i64 t200102, .int .i64 t200103], .int .i64 0] rfl (by (try simp only [List.map_toArray, List.map_cons, List.map_nil]); first | done | rfl | (simp only [List.length_drop, List.length_take]; rfl)) ?_; (with_reducible refine (larderref03_PrintDate.calls kj8 t200101 t200102 t200103 0 t200104 t200105 _ A13.out).mono ?_); rintro e w26 ⟨rfl, hb⟩; refine ⟨_, rfl, ?_⟩; have n0_ := Aside0.mk (below_step (by repeat (first | (with_reducible first | exact HB.out | apply below_alloc | apply pw_below_drewN | apply below_drew1) | exact HB.out)) hb); clear HB; have HB := n0_; clear n0_; (try clear hb); (try clear hb2); (try clear hk); (try clear hi)) | ((with_reducible refine gate_callee (f := 41) rfl ?_); refine goesL_ (some 45) rfl rfl Tryd.func41 (by kernel_rfl) rfl #[.int .i64 (wrap64 (Int.tdiv (Int.tmod (wrap64 (a0 + (wrap64 (60 * a1)))) 86400) 3600)), .int .i64 2] rfl (by (try simp only [List.map_toArray, List.map_cons, List.map_nil]); first | done | rfl | (simp only [List.length_drop, List.length_take]; rfl)) ?_; (with_reducible refine (larderref03_pad.calls kj8 (wrap64 (Int.tdiv (Int.tmod (wrap64 (a0 + (wrap64 (60 * a1)))) 86400) 3600)) 2 t200106 _ A15.out).mono ?_); rintro e w27 ⟨rfl, hb⟩; refine ⟨_, rfl, ?_⟩; have n0_ := Aside0.mk (below_step (by repeat (first | (with_reducible first | exact HB.out | apply below_alloc | apply pw_below_drewN | apply below_drew1) | exact HB.out)) hb); clear HB; have HB := n0_; clear n0_; (try clear hb); (try clear hb2); (try clear hk); (try clear hi)) | ((with_reducible refine gate_callee (f := 41) rfl ?_); refine goesL_ (some 51) rfl rfl Tryd.func41 (by kernel_rfl) rfl #[.int .i64 (Int.tmod (wrap64 (Int.tdiv (Int.tmod (wrap64 (a0 + (wrap64 (60 * a1)))) 86400) 60)) 60), .int .i64 2] rfl (by (try simp only [List.map_toArray, List.map_cons, List.map_nil]); first | done | rfl | (simp only [List.length_drop, List.length_take]; rfl)) ?_; (with_reducible refine (larderref03_pad.calls kj8 (Int.tmod (wrap64 (Int.tdiv (Int.tmod (wrap64 (a0 + (wrap64 (60 * a1)))) 86400) 60)) 60) 2 t200107 _ A18.out).mono ?_); rintro e w28 ⟨rfl, hb⟩; refine ⟨_, rfl, ?_⟩; have n0_ := Aside0.mk (below_step (by repeat (first | (with_reducible first | exact HB.out | apply below_alloc | apply pw_below_drewN | apply below_drew1) | exact HB.out)) hb); clear HB; have HB := n0_; clear n0_; (try clear hb); (try clear hb2); (try clear hk); (try clear hi)) | ((with_reducible refine gate_callee (f := 41) rfl ?_); refine goesL_ (some 56) rfl rfl Tryd.func41 (by kernel_rfl) rfl #[.int .i64 (Int.tmod (wrap64 (a0 + (wrap64 (60 * a1)))) 60), .int .i64 2] rfl (by (try simp only [List.map_toArray, List.map_cons, List.map_nil]); first | done | rfl | (simp only [List.length_drop, List.length_take]; rfl)) ?_; (with_reducible refine (larderref03_pad.calls kj8 (Int.tmod (wrap64 (a0 + (wrap64 (60 * a1)))) 60) 2 t200108 _ A21.out).mono ?_); rintro e w29 ⟨rfl, hb⟩; refine ⟨_, rfl, ?_⟩; have n0_ := Aside0.mk (below_step (by repeat (first | (with_reducible first | exact HB.out | apply below_alloc | apply pw_below_drewN | apply below_drew1) | exact HB.out)) hb); clear HB; have HB := n0_; clear n0_; (try clear hb); (try clear hb2); (try clear hk); (try clear hi)))
                                    go_ret2
                                    exact ⟨by first | rfl | (simp [errW_none, errW_some] <;> rfl) | (simp [*, errW_none, errW_some] <;> rfl), by repeat (first | (with_reducible first | exact HB.out | apply below_alloc | apply pw_below_drewN | apply below_drew1) | exact HB.out)⟩
                                  · rw [if_neg c24] at H
                                    exact absurd H (by simp)
                                · rw [if_neg c23] at H
                                  have c23b0 : (a1 == 0) = false := beq_eq_false_iff_ne.mpr c23
                                  have c23b1 : (a1 != 0) = true := bne_iff_ne.mpr c23
                                  by_cases c30 : a1 < 0
                                  · rw [if_pos c30] at H
                                    have c30b0 : decide (a1 < 0) = true := decide_eq_true c30
                                    clear c30
                                    by_cases c31 : t200104.size + 1 + t200106.size + 1 + t200107.size + 1 + t200108.size + 1 ≤ 9223372036854775807
                                    · rw [if_pos c31] at H
                                      have c31b0 := eq_true c31
                                      have c31b1 : decide (t200104.size + 1 + t200106.size + 1 + t200107.size + 1 + t200108.size + 1 ≤ 9223372036854775807) = true := decide_eq_true c31
                                      try have c31b2 : (9223372036854775807 < t200104.size + 1 + t200106.size + 1 + t200107.size + 1 + t200108.size + 1) = False := eq_false (Nat.not_lt.2 c31)
                                      replace H := Option.bind_eq_some_iff.mp H
                                      obtain ⟨t200109, A320, H⟩ := H
                                      replace H : (if t200104.size + 1 + t200106.size + 1 + t200107.size + 1 + t200108.size + 1 + t200109.size ≤ 9223372036854775807 then (if t200104.size + 1 + t200106.size + 1 + t200107.size + 1 + t200108.size + 1 + t200109.size + 1 ≤ 9223372036854775807 then ((larderref03_pad.f kj8 (Int.tmod (wrap64 (-a1)) 60) 2).bind fun t200110 => (if t200104.size + 1 + t200106.size + 1 + t200107.size + 1 + t200108.size + 1 + t200109.size + 1 + t200110.size ≤ 9223372036854775807 then (some ((((((((((t200104 ++ (⟨#[84]⟩ : ByteArray)) ++ t200106) ++ (⟨#[58]⟩ : ByteArray)) ++ t200107) ++ (⟨#[58]⟩ : ByteArray)) ++ t200108) ++ (⟨#[45]⟩ : ByteArray)) ++ t200109) ++ (⟨#[58]⟩ : ByteArray)) ++ t200110, 0)) else (none))) else (none)) else (none)) = some (r1, r2) := H
                                      try rw [Int.tmod_tmod_of_dvd _ (by decide)] at A320
                                      have A32 := Aside0.mk A320
                                      clear A320
                                      by_cases c33 : t200104.size + 1 + t200106.size + 1 + t200107.size + 1 + t200108.size + 1 + t200109.size ≤ 9223372036854775807
                                      · rw [if_pos c33] at H
                                        have c33b0 := eq_true c33
                                        have c33b1 : decide (t200104.size + 1 + t200106.size + 1 + t200107.size + 1 + t200108.size + 1 + t200109.size ≤ 9223372036854775807) = true := decide_eq_true c33
                                        try have c33b2 : (9223372036854775807 < t200104.size + 1 + t200106.size + 1 + t200107.size + 1 + t200108.size + 1 + t200109.size) = False := eq_false (Nat.not_lt.2 c33)
                                        by_cases c34 : t200104.size + 1 + t200106.size + 1 + t200107.size + 1 + t200108.size + 1 + t200109.size + 1 ≤ 9223372036854775807
                                        · rw [if_pos c34] at H
                                          have c34b0 := eq_true c34
                                          have c34b1 : decide (t200104.size + 1 + t200106.size + 1 + t200107.size + 1 + t200108.size + 1 + t200109.size + 1 ≤ 9223372036854775807) = true := decide_eq_true c34
                                          try have c34b2 : (9223372036854775807 < t200104.size + 1 + t200106.size + 1 + t200107.size + 1 + t200108.size + 1 + t200109.size + 1) = False := eq_false (Nat.not_lt.2 c34)
                                          replace H := Option.bind_eq_some_iff.mp H
                                          obtain ⟨t200110, A350, H⟩ := H
                                          replace H : (if t200104.size + 1 + t200106.size + 1 + t200107.size + 1 + t200108.size + 1 + t200109.size + 1 + t200110.size ≤ 9223372036854775807 then (some ((((((((((t200104 ++ (⟨#[84]⟩ : ByteArray)) ++ t200106) ++ (⟨#[58]⟩ : ByteArray)) ++ t200107) ++ (⟨#[58]⟩ : ByteArray)) ++ t200108) ++ (⟨#[45]⟩ : ByteArray)) ++ t200109) ++ (⟨#[58]⟩ : ByteArray)) ++ t200110, 0)) else (none)) = some (r1, r2) := H
                                          try rw [Int.tmod_tmod_of_dvd _ (by decide)] at A350
                                          have A35 := Aside0.mk A350
                                          clear A350
                                          by_cases c36 : t200104.size + 1 + t200106.size + 1 + t200107.size + 1 + t200108.size + 1 + t200109.size + 1 + t200110.size ≤ 9223372036854775807
                                          · rw [if_pos c36] at H
                                            have c36b0 := eq_true c36
                                            have c36b1 : decide (t200104.size + 1 + t200106.size + 1 + t200107.size + 1 + t200108.size + 1 + t200109.size + 1 + t200110.size ≤ 9223372036854775807) = true := decide_eq_true c36
                                            try have c36b2 : (9223372036854775807 < t200104.size + 1 + t200106.size + 1 + t200107.size + 1 + t200108.size + 1 + t200109.size + 1 + t200110.size) = False := eq_false (Nat.not_lt.2 c36)
                                            simp only [Option.some.injEq, Prod.mk.injEq] at H
                                            obtain ⟨rfl, rfl⟩ := H
                                            go_wp2_with (first | ((with_reducible refine gate_callee (f := 40) rfl ?_); refine goesL_ (some 35) rfl rfl Tryd.func40 (by kernel_rfl) rfl #[.int .i64 (wrap64 (Int.tdiv (wrap64 (a0 + (wrap64 (60 * a1)))) 86400))] rfl (by (try simp only [List.map_toArray, List.map_cons, List.map_nil]); first | done | rfl | (simp only [List.length_drop, List.length_take]; rfl)) ?_; (with_reducible refine (larderref03_date.calls kj8 (wrap64 (Int.tdiv (wrap64 (a0 + (wrap64 (60 * a1)))) 86400)) t200101 t200102 t200103 _ A12.out).mono ?_); rintro e w37 ⟨rfl, hb⟩; refine ⟨_, rfl, ?_⟩; have n0_ := Aside0.mk (below_step (by repeat (first | (with_reducible first | exact HB.out | apply below_alloc | apply pw_below_drewN | apply below_drew1) | exact HB.out)) hb); clear HB; have HB := n0_; clear n0_; (try clear hb); (try clear hb2); (try clear hk); (try clear hi)) | ((with_reducible refine gate_callee (f := 39) rfl ?_); refine goesL_ (some 36) rfl rfl Tryd.func39 (by kernel_rfl) rfl #[.agg #[.int .i64 t200101, .int .i64 t200102, .int .i64 t200103], .int .i64 0] rfl (by (try simp only [List.map_toArray, List.map_cons, List.map_nil]); first | done | rfl | (simp only [List.length_drop, List.length_take]; rfl)) ?_; (with_reducible refine (larderref03_PrintDate.calls kj8 t200101 t200102 t200103 0 t200104 t200105 _ A13.out).mono ?_); rintro e w38 ⟨rfl, hb⟩; refine ⟨_, rfl, ?_⟩; have n0_ := Aside0.mk (below_step (by repeat (first | (with_reducible first | exact HB.out | apply below_alloc | apply pw_below_drewN | apply below_drew1) | exact HB.out)) hb); clear HB; have HB := n0_; clear n0_; (try clear hb); (try clear hb2); (try clear hk); (try clear hi)) | ((with_reducible refine gate_callee (f := 41) rfl ?_); refine goesL_ (some 45) rfl rfl Tryd.func41 (by kernel_rfl) rfl #[.int .i64 (wrap64 (Int.tdiv (Int.tmod (wrap64 (a0 + (wrap64 (60 * a1)))) 86400) 3600)), .int .i64 2] rfl (by (try simp only [List.map_toArray, List.map_cons, List.map_nil]); first | done | rfl | (simp only [List.length_drop, List.length_take]; rfl)) ?_; (with_reducible refine (larderref03_pad.calls kj8 (wrap64 (Int.tdiv (Int.tmod (wrap64 (a0 + (wrap64 (60 * a1)))) 86400) 3600)) 2 t200106 _ A15.out).mono ?_); rintro e w39 ⟨rfl, hb⟩; refine ⟨_, rfl, ?_⟩; have n0_ := Aside0.mk (below_step (by repeat (first | (with_reducible first | exact HB.out | apply below_alloc | apply pw_below_drewN | apply below_drew1) | exact HB.out)) hb); clear HB; have HB := n0_; clear n0_; (try clear hb); (try clear hb2); (try clear hk); (try clear hi)) | ((with_reducible refine gate_callee (f := 41) rfl ?_); refine goesL_ (some 51) rfl rfl Tryd.func41 (by kernel_rfl) rfl #[.int .i64 (Int.tmod (wrap64 (Int.tdiv (Int.tmod (wrap64 (a0 + (wrap64 (60 * a1)))) 86400) 60)) 60), .int .i64 2] rfl (by (try simp only [List.map_toArray, List.map_cons, List.map_nil]); first | done | rfl | (simp only [List.length_drop, List.length_take]; rfl)) ?_; (with_reducible refine (larderref03_pad.calls kj8 (Int.tmod (wrap64 (Int.tdiv (Int.tmod (wrap64 (a0 + (wrap64 (60 * a1)))) 86400) 60)) 60) 2 t200107 _ A18.out).mono ?_); rintro e w40 ⟨rfl, hb⟩; refine ⟨_, rfl, ?_⟩; have n0_ := Aside0.mk (below_step (by repeat (first | (with_reducible first | exact HB.out | apply below_alloc | apply pw_below_drewN | apply below_drew1) | exact HB.out)) hb); clear HB; have HB := n0_; clear n0_; (try clear hb); (try clear hb2); (try clear hk); (try clear hi)) | ((with_reducible refine gate_callee (f := 41) rfl ?_); refine goesL_ (some 56) rfl rfl Tryd.func41 (by kernel_rfl) rfl #[.int .i64 (Int.tmod (wrap64 (a0 + (wrap64 (60 * a1)))) 60), .int .i64 2] rfl (by (try simp only [List.map_toArray, List.map_cons, List.map_nil]); first | done | rfl | (simp only [List.length_drop, List.length_take]; rfl)) ?_; (with_reducible refine (larderref03_pad.calls kj8 (Int.tmod (wrap64 (a0 + (wrap64 (60 * a1)))) 60) 2 t200108 _ A21.out).mono ?_); rintro e w41 ⟨rfl, hb⟩; refine ⟨_, rfl, ?_⟩; have n0_ := Aside0.mk (below_step (by repeat (first | (with_reducible first | exact HB.out | apply below_alloc | apply pw_below_drewN | apply below_drew1) | exact HB.out)) hb); clear HB; have HB := n0_; clear n0_; (try clear hb); (try clear hb2); (try clear hk); (try clear hi)) | ((with_reducible refine gate_callee (f := 41) rfl ?_); refine goesL_ (some 69) rfl rfl Tryd.func41 (by kernel_rfl) rfl #[.int .i64 (wrap64 (Int.tdiv (wrap64 (-a1)) 60)), .int .i64 2] rfl (by (try simp only [List.map_toArray, List.map_cons, List.map_nil]); first | done | rfl | (simp only [List.length_drop, List.length_take]; rfl)) ?_; (with_reducible refine (larderref03_pad.calls kj8 (wrap64 (Int.tdiv (wrap64 (-a1)) 60)) 2 t200109 _ A32.out).mono ?_); rintro e w42 ⟨rfl, hb⟩; refine ⟨_, rfl, ?_⟩; have n0_ := Aside0.mk (below_step (by repeat (first | (with_reducible first | exact HB.out | apply below_alloc | apply pw_below_drewN | apply below_drew1) | exact HB.out)) hb); clear HB; have HB := n0_; clear n0_; (try clear hb); (try clear hb2); (try clear hk); (try clear hi)) | ((with_reducible refine gate_callee (f := 41) rfl ?_); refine goesL_ (some 75) rfl rfl Tryd.func41 (by kernel_rfl) rfl #[.int .i64 (Int.tmod (wrap64 (-a1)) 60), .int .i64 2] rfl (by (try simp only [List.map_toArray, List.map_cons, List.map_nil]); first | done | rfl | (simp only [List.length_drop, List.length_take]; rfl)) ?_; (with_reducible refine (larderref03_pad.calls kj8 (Int.tmod (wrap64 (-a1)) 60) 2 t200110 _ A35.out).mono ?_); rintro e w43 ⟨rfl, hb⟩; refine ⟨_, rfl, ?_⟩; have n0_ := Aside0.mk (below_step (by repeat (first | (with_reducible first | exact HB.out | apply below_alloc | apply pw_below_drewN | apply below_drew1) | exact HB.out)) hb); clear HB; have HB := n0_; clear n0_; (try clear hb); (try clear hb2); (try clear hk); (try clear hi)))
                                            go_ret2
                                            exact ⟨by first | rfl | (simp [errW_none, errW_some] <;> rfl) | (simp [*, errW_none, errW_some] <;> rfl), by repeat (first | (with_reducible first | exact HB.out | apply below_alloc | apply pw_below_drewN | apply below_drew1) | exact HB.out)⟩
                                          · rw [if_neg c36] at H
                                            exact absurd H (by simp)
                                        · rw [if_neg c34] at H
                                          exact absurd H (by simp)
                                      · rw [if_neg c33] at H
                                        exact absurd H (by simp)
                                    · rw [if_neg c31] at H
                                      exact absurd H (by simp)
                                  · rw [if_neg c30] at H
                                    have c30b0 : decide (a1 < 0) = false := decide_eq_false c30
                                    clear c30
                                    by_cases c44 : t200104.size + 1 + t200106.size + 1 + t200107.size + 1 + t200108.size + 1 ≤ 9223372036854775807
                                    · rw [if_pos c44] at H
                                      have c44b0 := eq_true c44
                                      have c44b1 : decide (t200104.size + 1 + t200106.size + 1 + t200107.size + 1 + t200108.size + 1 ≤ 9223372036854775807) = true := decide_eq_true c44
                                      try have c44b2 : (9223372036854775807 < t200104.size + 1 + t200106.size + 1 + t200107.size + 1 + t200108.size + 1) = False := eq_false (Nat.not_lt.2 c44)
                                      replace H := Option.bind_eq_some_iff.mp H
                                      obtain ⟨t200111, A450, H⟩ := H
                                      replace H : (if t200104.size + 1 + t200106.size + 1 + t200107.size + 1 + t200108.size + 1 + t200111.size ≤ 9223372036854775807 then (if t200104.size + 1 + t200106.size + 1 + t200107.size + 1 + t200108.size + 1 + t200111.size + 1 ≤ 9223372036854775807 then ((larderref03_pad.f kj8 (Int.tmod a1 60) 2).bind fun t200112 => (if t200104.size + 1 + t200106.size + 1 + t200107.size + 1 + t200108.size + 1 + t200111.size + 1 + t200112.size ≤ 9223372036854775807 then (some ((((((((((t200104 ++ (⟨#[84]⟩ : ByteArray)) ++ t200106) ++ (⟨#[58]⟩ : ByteArray)) ++ t200107) ++ (⟨#[58]⟩ : ByteArray)) ++ t200108) ++ (⟨#[43]⟩ : ByteArray)) ++ t200111) ++ (⟨#[58]⟩ : ByteArray)) ++ t200112, 0)) else (none))) else (none)) else (none)) = some (r1, r2) := H
                                      try rw [Int.tmod_tmod_of_dvd _ (by decide)] at A450
                                      have A45 := Aside0.mk A450
                                      clear A450
                                      by_cases c46 : t200104.size + 1 + t200106.size + 1 + t200107.size + 1 + t200108.size + 1 + t200111.size ≤ 9223372036854775807
                                      · rw [if_pos c46] at H
                                        have c46b0 := eq_true c46
                                        have c46b1 : decide (t200104.size + 1 + t200106.size + 1 + t200107.size + 1 + t200108.size + 1 + t200111.size ≤ 9223372036854775807) = true := decide_eq_true c46
                                        try have c46b2 : (9223372036854775807 < t200104.size + 1 + t200106.size + 1 + t200107.size + 1 + t200108.size + 1 + t200111.size) = False := eq_false (Nat.not_lt.2 c46)
                                        by_cases c47 : t200104.size + 1 + t200106.size + 1 + t200107.size + 1 + t200108.size + 1 + t200111.size + 1 ≤ 9223372036854775807
                                        · rw [if_pos c47] at H
                                          have c47b0 := eq_true c47
                                          have c47b1 : decide (t200104.size + 1 + t200106.size + 1 + t200107.size + 1 + t200108.size + 1 + t200111.size + 1 ≤ 9223372036854775807) = true := decide_eq_true c47
                                          try have c47b2 : (9223372036854775807 < t200104.size + 1 + t200106.size + 1 + t200107.size + 1 + t200108.size + 1 + t200111.size + 1) = False := eq_false (Nat.not_lt.2 c47)
                                          replace H := Option.bind_eq_some_iff.mp H
                                          obtain ⟨t200112, A480, H⟩ := H
                                          replace H : (if t200104.size + 1 + t200106.size + 1 + t200107.size + 1 + t200108.size + 1 + t200111.size + 1 + t200112.size ≤ 9223372036854775807 then (some ((((((((((t200104 ++ (⟨#[84]⟩ : ByteArray)) ++ t200106) ++ (⟨#[58]⟩ : ByteArray)) ++ t200107) ++ (⟨#[58]⟩ : ByteArray)) ++ t200108) ++ (⟨#[43]⟩ : ByteArray)) ++ t200111) ++ (⟨#[58]⟩ : ByteArray)) ++ t200112, 0)) else (none)) = some (r1, r2) := H
                                          try rw [Int.tmod_tmod_of_dvd _ (by decide)] at A480
                                          have A48 := Aside0.mk A480
                                          clear A480
                                          by_cases c49 : t200104.size + 1 + t200106.size + 1 + t200107.size + 1 + t200108.size + 1 + t200111.size + 1 + t200112.size ≤ 9223372036854775807
                                          · rw [if_pos c49] at H
                                            have c49b0 := eq_true c49
                                            have c49b1 : decide (t200104.size + 1 + t200106.size + 1 + t200107.size + 1 + t200108.size + 1 + t200111.size + 1 + t200112.size ≤ 9223372036854775807) = true := decide_eq_true c49
                                            try have c49b2 : (9223372036854775807 < t200104.size + 1 + t200106.size + 1 + t200107.size + 1 + t200108.size + 1 + t200111.size + 1 + t200112.size) = False := eq_false (Nat.not_lt.2 c49)
                                            simp only [Option.some.injEq, Prod.mk.injEq] at H
                                            obtain ⟨rfl, rfl⟩ := H
                                            go_wp2_with (first | ((with_reducible refine gate_callee (f := 40) rfl ?_); refine goesL_ (some 35) rfl rfl Tryd.func40 (by kernel_rfl) rfl #[.int .i64 (wrap64 (Int.tdiv (wrap64 (a0 + (wrap64 (60 * a1)))) 86400))] rfl (by (try simp only [List.map_toArray, List.map_cons, List.map_nil]); first | done | rfl | (simp only [List.length_drop, List.length_take]; rfl)) ?_; (with_reducible refine (larderref03_date.calls kj8 (wrap64 (Int.tdiv (wrap64 (a0 + (wrap64 (60 * a1)))) 86400)) t200101 t200102 t200103 _ A12.out).mono ?_); rintro e w50 ⟨rfl, hb⟩; refine ⟨_, rfl, ?_⟩; have n0_ := Aside0.mk (below_step (by repeat (first | (with_reducible first | exact HB.out | apply below_alloc | apply pw_below_drewN | apply below_drew1) | exact HB.out)) hb); clear HB; have HB := n0_; clear n0_; (try clear hb); (try clear hb2); (try clear hk); (try clear hi)) | ((with_reducible refine gate_callee (f := 39) rfl ?_); refine goesL_ (some 36) rfl rfl Tryd.func39 (by kernel_rfl) rfl #[.agg #[.int .i64 t200101, .int .i64 t200102, .int .i64 t200103], .int .i64 0] rfl (by (try simp only [List.map_toArray, List.map_cons, List.map_nil]); first | done | rfl | (simp only [List.length_drop, List.length_take]; rfl)) ?_; (with_reducible refine (larderref03_PrintDate.calls kj8 t200101 t200102 t200103 0 t200104 t200105 _ A13.out).mono ?_); rintro e w51 ⟨rfl, hb⟩; refine ⟨_, rfl, ?_⟩; have n0_ := Aside0.mk (below_step (by repeat (first | (with_reducible first | exact HB.out | apply below_alloc | apply pw_below_drewN | apply below_drew1) | exact HB.out)) hb); clear HB; have HB := n0_; clear n0_; (try clear hb); (try clear hb2); (try clear hk); (try clear hi)) | ((with_reducible refine gate_callee (f := 41) rfl ?_); refine goesL_ (some 45) rfl rfl Tryd.func41 (by kernel_rfl) rfl #[.int .i64 (wrap64 (Int.tdiv (Int.tmod (wrap64 (a0 + (wrap64 (60 * a1)))) 86400) 3600)), .int .i64 2] rfl (by (try simp only [List.map_toArray, List.map_cons, List.map_nil]); first | done | rfl | (simp only [List.length_drop, List.length_take]; rfl)) ?_; (with_reducible refine (larderref03_pad.calls kj8 (wrap64 (Int.tdiv (Int.tmod (wrap64 (a0 + (wrap64 (60 * a1)))) 86400) 3600)) 2 t200106 _ A15.out).mono ?_); rintro e w52 ⟨rfl, hb⟩; refine ⟨_, rfl, ?_⟩; have n0_ := Aside0.mk (below_step (by repeat (first | (with_reducible first | exact HB.out | apply below_alloc | apply pw_below_drewN | apply below_drew1) | exact HB.out)) hb); clear HB; have HB := n0_; clear n0_; (try clear hb); (try clear hb2); (try clear hk); (try clear hi)) | ((with_reducible refine gate_callee (f := 41) rfl ?_); refine goesL_ (some 51) rfl rfl Tryd.func41 (by kernel_rfl) rfl #[.int .i64 (Int.tmod (wrap64 (Int.tdiv (Int.tmod (wrap64 (a0 + (wrap64 (60 * a1)))) 86400) 60)) 60), .int .i64 2] rfl (by (try simp only [List.map_toArray, List.map_cons, List.map_nil]); first | done | rfl | (simp only [List.length_drop, List.length_take]; rfl)) ?_; (with_reducible refine (larderref03_pad.calls kj8 (Int.tmod (wrap64 (Int.tdiv (Int.tmod (wrap64 (a0 + (wrap64 (60 * a1)))) 86400) 60)) 60) 2 t200107 _ A18.out).mono ?_); rintro e w53 ⟨rfl, hb⟩; refine ⟨_, rfl, ?_⟩; have n0_ := Aside0.mk (below_step (by repeat (first | (with_reducible first | exact HB.out | apply below_alloc | apply pw_below_drewN | apply below_drew1) | exact HB.out)) hb); clear HB; have HB := n0_; clear n0_; (try clear hb); (try clear hb2); (try clear hk); (try clear hi)) | ((with_reducible refine gate_callee (f := 41) rfl ?_); refine goesL_ (some 56) rfl rfl Tryd.func41 (by kernel_rfl) rfl #[.int .i64 (Int.tmod (wrap64 (a0 + (wrap64 (60 * a1)))) 60), .int .i64 2] rfl (by (try simp only [List.map_toArray, List.map_cons, List.map_nil]); first | done | rfl | (simp only [List.length_drop, List.length_take]; rfl)) ?_; (with_reducible refine (larderref03_pad.calls kj8 (Int.tmod (wrap64 (a0 + (wrap64 (60 * a1)))) 60) 2 t200108 _ A21.out).mono ?_); rintro e w54 ⟨rfl, hb⟩; refine ⟨_, rfl, ?_⟩; have n0_ := Aside0.mk (below_step (by repeat (first | (with_reducible first | exact HB.out | apply below_alloc | apply pw_below_drewN | apply below_drew1) | exact HB.out)) hb); clear HB; have HB := n0_; clear n0_; (try clear hb); (try clear hb2); (try clear hk); (try clear hi)) | ((with_reducible refine gate_callee (f := 41) rfl ?_); refine goesL_ (some 81) rfl rfl Tryd.func41 (by kernel_rfl) rfl #[.int .i64 (wrap64 (Int.tdiv a1 60)), .int .i64 2] rfl (by (try simp only [List.map_toArray, List.map_cons, List.map_nil]); first | done | rfl | (simp only [List.length_drop, List.length_take]; rfl)) ?_; (with_reducible refine (larderref03_pad.calls kj8 (wrap64 (Int.tdiv a1 60)) 2 t200111 _ A45.out).mono ?_); rintro e w55 ⟨rfl, hb⟩; refine ⟨_, rfl, ?_⟩; have n0_ := Aside0.mk (below_step (by repeat (first | (with_reducible first | exact HB.out | apply below_alloc | apply pw_below_drewN | apply below_drew1) | exact HB.out)) hb); clear HB; have HB := n0_; clear n0_; (try clear hb); (try clear hb2); (try clear hk); (try clear hi)) | ((with_reducible refine gate_callee (f := 41) rfl ?_); refine goesL_ (some 86) rfl rfl Tryd.func41 (by kernel_rfl) rfl #[.int .i64 (Int.tmod a1 60), .int .i64 2] rfl (by (try simp only [List.map_toArray, List.map_cons, List.map_nil]); first | done | rfl | (simp only [List.length_drop, List.length_take]; rfl)) ?_; (with_reducible refine (larderref03_pad.calls kj8 (Int.tmod a1 60) 2 t200112 _ A48.out).mono ?_); rintro e w56 ⟨rfl, hb⟩; refine ⟨_, rfl, ?_⟩; have n0_ := Aside0.mk (below_step (by repeat (first | (with_reducible first | exact HB.out | apply below_alloc | apply pw_below_drewN | apply below_drew1) | exact HB.out)) hb); clear HB; have HB := n0_; clear n0_; (try clear hb); (try clear hb2); (try clear hk); (try clear hi)))
                                            go_ret2
                                            exact ⟨by first | rfl | (simp [errW_none, errW_some] <;> rfl) | (simp [*, errW_none, errW_some] <;> rfl), by repeat (first | (with_reducible first | exact HB.out | apply below_alloc | apply pw_below_drewN | apply below_drew1) | exact HB.out)⟩
                                          · rw [if_neg c49] at H
                                            exact absurd H (by simp)
                                        · rw [if_neg c47] at H
                                          exact absurd H (by simp)
                                      · rw [if_neg c46] at H
                                        exact absurd H (by simp)
                                    · rw [if_neg c44] at H
                                      exact absurd H (by simp)
                              · rw [if_neg c22] at H
                                exact absurd H (by simp)
                            · rw [if_neg c20] at H
                              exact absurd H (by simp)
                          · rw [if_neg c19] at H
                            exact absurd H (by simp)
                        · rw [if_neg c17] at H
                          exact absurd H (by simp)
                      · rw [if_neg c16] at H
                        exact absurd H (by simp)
                    · rw [if_neg c14] at H
                      exact absurd H (by simp)

end Go.Proofs.YtiklakkkgmilnaaDoor.GC
