-- written by a program (gp.py over the kit's print) for this claim
import Derived.Test.YtofafljfabgpmaaGCx0
import Derived.Test.YtofafljfabgpmaaGCxf13
import Derived.Test.YtofafljfabgpmaaGCxf14
import Derived.Test.YtofafljfabgpmaaGCxf15
namespace Go.Proofs.Ytofafljfabgpmaa.GC
open Go.RowKit Go.Proofs.YtofafljfabgpmaaW.PrintWords Go.Proofs.YtofafljfabgpmaaW.PrintLast Go.Proofs.Ytofafljfabgpmaa.Ext
attribute [local go_sem] max2_int min2_int max_two min_two   -- for this text alone
set_option linter.unusedVariables false
set_option linter.unusedSimpArgs false

/-! ### larderref03_ParseSpan: function 8 -/
mutual
def larderref03_ParseSpan.j0 : Nat → ByteArray → Bool → Int → Int → Int → Int → Int → Int → Int → Option (Int × Int × Int × Int × Int × Int × Int × Int × Int)
  | 0, _, _, _, _, _, _, _, _, _ => none
  | k + 1, x0, x26, x80103000, x80103001, x80103002, x80103003, x80103004, x80103005, x80103006 => if x26 = true then (some (x80103000, x80103001, x80103002, x80103003, x80103004, x80103005, x80103006, 34, 0)) else (larderref03_ParseSpan.l0 k x0 1 0 false false x80103000 x80103001 x80103002 x80103003 x80103004 x80103005 x80103006 x80103000 x80103001 x80103002 x80103003 x80103004 x80103005 x80103006)
def larderref03_ParseSpan.l0 : Nat → ByteArray → Int → Int → Bool → Bool → Int → Int → Int → Int → Int → Int → Int → Int → Int → Int → Int → Int → Int → Int → Option (Int × Int × Int × Int × Int × Int × Int × Int × Int)
  | 0, _, _, _, _, _, _, _, _, _, _, _, _, _, _, _, _, _, _, _ => none
  | k + 1, x0, x7, x8, x9, x10, x80103000, x80103001, x80103002, x80103003, x80103004, x80103005, x80103006, x80104000, x80104001, x80104002, x80104003, x80104004, x80104005, x80104006 => if x7 < (x0.size : Int) then (if 0 ≤ x7 then (if (bt x0 x7) = 84 then (larderref03_ParseSpan.j2 k x0 x7 x8 x9 (!x9) x80103000 x80103001 x80103002 x80103003 x80103004 x80103005 x80103006 x80104000 x80104001 x80104002 x80104003 x80104004 x80104005 x80104006) else (larderref03_ParseSpan.j2 k x0 x7 x8 x9 false x80103000 x80103001 x80103002 x80103003 x80103004 x80103005 x80103006 x80104000 x80104001 x80104002 x80104003 x80104004 x80104005 x80104006)) else (none)) else (if x10 = true then (some (x80104000, x80104001, x80104002, x80104003, x80104004, x80104005, x80104006, 0, 0)) else (some (x80103000, x80103001, x80103002, x80103003, x80103004, x80103005, x80103006, 34, x7)))
def larderref03_ParseSpan.j2 : Nat → ByteArray → Int → Int → Bool → Bool → Int → Int → Int → Int → Int → Int → Int → Int → Int → Int → Int → Int → Int → Int → Option (Int × Int × Int × Int × Int × Int × Int × Int × Int)
  | 0, _, _, _, _, _, _, _, _, _, _, _, _, _, _, _, _, _, _, _ => none
  | k + 1, x0, x7, x8, x9, x40, x80103000, x80103001, x80103002, x80103003, x80103004, x80103005, x80103006, x80104000, x80104001, x80104002, x80104003, x80104004, x80104005, x80104006 => if x40 = true then (larderref03_ParseSpan.l0 k x0 (wrap64 (x7 + 1)) x8 true false x80103000 x80103001 x80103002 x80103003 x80103004 x80103005 x80103006 x80104000 x80104001 x80104002 x80104003 x80104004 x80104005 x80104006) else (larderref03_ParseSpan.l1 k x0 x7 x8 x9 0 0 x80103000 x80103001 x80103002 x80103003 x80103004 x80103005 x80103006 x80104000 x80104001 x80104002 x80104003 x80104004 x80104005 x80104006)
def larderref03_ParseSpan.j4 : Nat → ByteArray → Int → Int → Bool → Int → Int → Int → Int → Int → Int → Int → Int → Int → Int → Int → Int → Int → Int → Int → Int → Option (Int × Int × Int × Int × Int × Int × Int × Int × Int)
  | 0, _, _, _, _, _, _, _, _, _, _, _, _, _, _, _, _, _, _, _, _ => none
  | k + 1, x0, x7, x8, x9, x11, x12, x80103000, x80103001, x80103002, x80103003, x80103004, x80103005, x80103006, x80104000, x80104001, x80104002, x80104003, x80104004, x80104005, x80104006 => if x12 = 0 then (larderref03_ParseSpan.j5 k x0 x7 x8 x9 x11 x12 true x80103000 x80103001 x80103002 x80103003 x80103004 x80103005 x80103006 x80104000 x80104001 x80104002 x80104003 x80104004 x80104005 x80104006) else (if x8 = 7 then (larderref03_ParseSpan.j5 k x0 x7 x8 x9 x11 x12 true x80103000 x80103001 x80103002 x80103003 x80103004 x80103005 x80103006 x80104000 x80104001 x80104002 x80104003 x80104004 x80104005 x80104006) else (if x8 = 3 then (larderref03_ParseSpan.j5 k x0 x7 x8 x9 x11 x12 (!x9) x80103000 x80103001 x80103002 x80103003 x80103004 x80103005 x80103006 x80104000 x80104001 x80104002 x80104003 x80104004 x80104005 x80104006) else (larderref03_ParseSpan.j5 k x0 x7 x8 x9 x11 x12 false x80103000 x80103001 x80103002 x80103003 x80103004 x80103005 x80103006 x80104000 x80104001 x80104002 x80104003 x80104004 x80104005 x80104006)))
def larderref03_ParseSpan.j5 : Nat → ByteArray → Int → Int → Bool → Int → Int → Bool → Int → Int → Int → Int → Int → Int → Int → Int → Int → Int → Int → Int → Int → Int → Option (Int × Int × Int × Int × Int × Int × Int × Int × Int)
  | 0, _, _, _, _, _, _, _, _, _, _, _, _, _, _, _, _, _, _, _, _, _ => none
  | k + 1, x0, x7, x8, x9, x11, x12, x82, x80103000, x80103001, x80103002, x80103003, x80103004, x80103005, x80103006, x80104000, x80104001, x80104002, x80104003, x80104004, x80104005, x80104006 => if x82 = true then (some (x80103000, x80103001, x80103002, x80103003, x80103004, x80103005, x80103006, 34, wrap64 (x7 - x12))) else (if x7 = (x0.size : Int) then (some (x80103000, x80103001, x80103002, x80103003, x80103004, x80103005, x80103006, 34, x7)) else (if 0 ≤ x7 then (if x7 < (x0.size : Int) then (if (bt x0 x7) = 87 then (if x8 = 0 then (larderref03_ParseSpan.j6 k x0 x7 x8 x9 x11 (!x9) x80103000 x80103001 x80103002 x80103003 x80103004 x80103005 x80103006 x80104000 x80104001 x80104002 x80104003 x80104004 x80104005 x80104006) else (larderref03_ParseSpan.j6 k x0 x7 x8 x9 x11 false x80103000 x80103001 x80103002 x80103003 x80103004 x80103005 x80103006 x80104000 x80104001 x80104002 x80104003 x80104004 x80104005 x80104006)) else (larderref03_ParseSpan.j6 k x0 x7 x8 x9 x11 false x80103000 x80103001 x80103002 x80103003 x80103004 x80103005 x80103006 x80104000 x80104001 x80104002 x80104003 x80104004 x80104005 x80104006)) else (none)) else (none)))
def larderref03_ParseSpan.j6 : Nat → ByteArray → Int → Int → Bool → Int → Bool → Int → Int → Int → Int → Int → Int → Int → Int → Int → Int → Int → Int → Int → Int → Option (Int × Int × Int × Int × Int × Int × Int × Int × Int)
  | 0, _, _, _, _, _, _, _, _, _, _, _, _, _, _, _, _, _, _, _, _ => none
  | k + 1, x0, x7, x8, x9, x11, x104, x80103000, x80103001, x80103002, x80103003, x80103004, x80103005, x80103006, x80104000, x80104001, x80104002, x80104003, x80104004, x80104005, x80104006 => if x104 = true then (if (wrap64 (x7 + 1)) < (x0.size : Int) then (some (x80103000, x80103001, x80103002, x80103003, x80103004, x80103005, x80103006, 34, wrap64 (x7 + 1))) else (some (x80104000, x80104001, x11, x80104003, x80104004, x80104005, x80104006, 0, 0))) else (if 0 ≤ x7 then (if x7 < (x0.size : Int) then ((larderref03_rank.f (bt x0 x7) x9).bind fun t80105 => (if t80105 ≤ x8 then (some (x80103000, x80103001, x80103002, x80103003, x80103004, x80103005, x80103006, 34, x7)) else ((larderref03_put.f x80104000 x80104001 x80104002 x80104003 x80104004 x80104005 x80104006 t80105 x11).bind fun bt80106 => (larderref03_ParseSpan.l0 k x0 (wrap64 (x7 + 1)) t80105 x9 true x80103000 x80103001 x80103002 x80103003 x80103004 x80103005 x80103006 bt80106.1 bt80106.2.1 bt80106.2.2.1 bt80106.2.2.2.1 bt80106.2.2.2.2.1 bt80106.2.2.2.2.2.1 bt80106.2.2.2.2.2.2)))) else (none)) else (none))
def larderref03_ParseSpan.l1 : Nat → ByteArray → Int → Int → Bool → Int → Int → Int → Int → Int → Int → Int → Int → Int → Int → Int → Int → Int → Int → Int → Int → Option (Int × Int × Int × Int × Int × Int × Int × Int × Int)
  | 0, _, _, _, _, _, _, _, _, _, _, _, _, _, _, _, _, _, _, _, _ => none
  | k + 1, x0, x7, x8, x9, x11, x12, x80103000, x80103001, x80103002, x80103003, x80103004, x80103005, x80103006, x80104000, x80104001, x80104002, x80104003, x80104004, x80104005, x80104006 => if x7 < (x0.size : Int) then (if 0 ≤ x7 then ((larderref03_digit.f (bt x0 x7)).bind fun t80104 => (if t80104 = true then (if x12 < 9 then (larderref03_ParseSpan.l1 k x0 (wrap64 (x7 + 1)) x8 x9 (wrap64 ((wrap64 (x11 * 10)) + (((bt x0 x7) - 48) % 256))) (wrap64 (x12 + 1)) x80103000 x80103001 x80103002 x80103003 x80103004 x80103005 x80103006 x80104000 x80104001 x80104002 x80104003 x80104004 x80104005 x80104006) else (larderref03_ParseSpan.j4 k x0 x7 x8 x9 x11 x12 x80103000 x80103001 x80103002 x80103003 x80103004 x80103005 x80103006 x80104000 x80104001 x80104002 x80104003 x80104004 x80104005 x80104006)) else (larderref03_ParseSpan.j4 k x0 x7 x8 x9 x11 x12 x80103000 x80103001 x80103002 x80103003 x80103004 x80103005 x80103006 x80104000 x80104001 x80104002 x80104003 x80104004 x80104005 x80104006))) else (none)) else (larderref03_ParseSpan.j4 k x0 x7 x8 x9 x11 x12 x80103000 x80103001 x80103002 x80103003 x80103004 x80103005 x80103006 x80104000 x80104001 x80104002 x80104003 x80104004 x80104005 x80104006)
end
def larderref03_ParseSpan.f (k : Nat) (a0 : ByteArray) : Option (Int × Int × Int × Int × Int × Int × Int × Int × Int) := if (a0.size : Int) > 64 then (some (0, 0, 0, 0, 0, 0, 0, 1, 0)) else (if (a0.size : Int) = 0 then (larderref03_ParseSpan.j0 k a0 true 0 0 0 0 0 0 0) else (if 0 < (a0.size : Int) then (larderref03_ParseSpan.j0 k a0 ((bt a0 0) != 80) 0 0 0 0 0 0 0) else (none)))
theorem larderref03_ParseSpan.mono_l : ∀ k, (∀ y0 y1 y2 y3 y4 y5 y6 y7 y8, LeO (larderref03_ParseSpan.j0 k y0 y1 y2 y3 y4 y5 y6 y7 y8) (larderref03_ParseSpan.j0 (k + 1) y0 y1 y2 y3 y4 y5 y6 y7 y8)) ∧ (∀ y0 y1 y2 y3 y4 y5 y6 y7 y8 y9 y10 y11 y12 y13 y14 y15 y16 y17 y18, LeO (larderref03_ParseSpan.l0 k y0 y1 y2 y3 y4 y5 y6 y7 y8 y9 y10 y11 y12 y13 y14 y15 y16 y17 y18) (larderref03_ParseSpan.l0 (k + 1) y0 y1 y2 y3 y4 y5 y6 y7 y8 y9 y10 y11 y12 y13 y14 y15 y16 y17 y18)) ∧ (∀ y0 y1 y2 y3 y4 y5 y6 y7 y8 y9 y10 y11 y12 y13 y14 y15 y16 y17 y18, LeO (larderref03_ParseSpan.j2 k y0 y1 y2 y3 y4 y5 y6 y7 y8 y9 y10 y11 y12 y13 y14 y15 y16 y17 y18) (larderref03_ParseSpan.j2 (k + 1) y0 y1 y2 y3 y4 y5 y6 y7 y8 y9 y10 y11 y12 y13 y14 y15 y16 y17 y18)) ∧ (∀ y0 y1 y2 y3 y4 y5 y6 y7 y8 y9 y10 y11 y12 y13 y14 y15 y16 y17 y18 y19, LeO (larderref03_ParseSpan.j4 k y0 y1 y2 y3 y4 y5 y6 y7 y8 y9 y10 y11 y12 y13 y14 y15 y16 y17 y18 y19) (larderref03_ParseSpan.j4 (k + 1) y0 y1 y2 y3 y4 y5 y6 y7 y8 y9 y10 y11 y12 y13 y14 y15 y16 y17 y18 y19)) ∧ (∀ y0 y1 y2 y3 y4 y5 y6 y7 y8 y9 y10 y11 y12 y13 y14 y15 y16 y17 y18 y19 y20, LeO (larderref03_ParseSpan.j5 k y0 y1 y2 y3 y4 y5 y6 y7 y8 y9 y10 y11 y12 y13 y14 y15 y16 y17 y18 y19 y20) (larderref03_ParseSpan.j5 (k + 1) y0 y1 y2 y3 y4 y5 y6 y7 y8 y9 y10 y11 y12 y13 y14 y15 y16 y17 y18 y19 y20)) ∧ (∀ y0 y1 y2 y3 y4 y5 y6 y7 y8 y9 y10 y11 y12 y13 y14 y15 y16 y17 y18 y19, LeO (larderref03_ParseSpan.j6 k y0 y1 y2 y3 y4 y5 y6 y7 y8 y9 y10 y11 y12 y13 y14 y15 y16 y17 y18 y19) (larderref03_ParseSpan.j6 (k + 1) y0 y1 y2 y3 y4 y5 y6 y7 y8 y9 y10 y11 y12 y13 y14 y15 y16 y17 y18 y19)) ∧ (∀ y0 y1 y2 y3 y4 y5 y6 y7 y8 y9 y10 y11 y12 y13 y14 y15 y16 y17 y18 y19, LeO (larderref03_ParseSpan.l1 k y0 y1 y2 y3 y4 y5 y6 y7 y8 y9 y10 y11 y12 y13 y14 y15 y16 y17 y18 y19) (larderref03_ParseSpan.l1 (k + 1) y0 y1 y2 y3 y4 y5 y6 y7 y8 y9 y10 y11 y12 y13 y14 y15 y16 y17 y18 y19))
  | 0 => ⟨fun _ _ _ _ _ _ _ _ _ r h => by simp [larderref03_ParseSpan.j0] at h, fun _ _ _ _ _ _ _ _ _ _ _ _ _ _ _ _ _ _ _ r h => by simp [larderref03_ParseSpan.l0] at h, fun _ _ _ _ _ _ _ _ _ _ _ _ _ _ _ _ _ _ _ r h => by simp [larderref03_ParseSpan.j2] at h, fun _ _ _ _ _ _ _ _ _ _ _ _ _ _ _ _ _ _ _ _ r h => by simp [larderref03_ParseSpan.j4] at h, fun _ _ _ _ _ _ _ _ _ _ _ _ _ _ _ _ _ _ _ _ _ r h => by simp [larderref03_ParseSpan.j5] at h, fun _ _ _ _ _ _ _ _ _ _ _ _ _ _ _ _ _ _ _ _ r h => by simp [larderref03_ParseSpan.j6] at h, fun _ _ _ _ _ _ _ _ _ _ _ _ _ _ _ _ _ _ _ _ r h => by simp [larderref03_ParseSpan.l1] at h⟩
  | k + 1 => by
    obtain ⟨ih0, ih1, ih2, ih3, ih4, ih5, ih6⟩ := larderref03_ParseSpan.mono_l k
    refine ⟨?_, ?_, ?_, ?_, ?_, ?_, ?_⟩
    · intro y0 y1 y2 y3 y4 y5 y6 y7 y8
      unfold larderref03_ParseSpan.j0
      repeat' first
      | (with_reducible exact ih0 _ _ _ _ _ _ _ _ _)
      | (with_reducible exact ih1 _ _ _ _ _ _ _ _ _ _ _ _ _ _ _ _ _ _ _)
      | (with_reducible exact ih2 _ _ _ _ _ _ _ _ _ _ _ _ _ _ _ _ _ _ _)
      | (with_reducible exact ih3 _ _ _ _ _ _ _ _ _ _ _ _ _ _ _ _ _ _ _ _)
      | (with_reducible exact ih4 _ _ _ _ _ _ _ _ _ _ _ _ _ _ _ _ _ _ _ _ _)
      | (with_reducible exact ih5 _ _ _ _ _ _ _ _ _ _ _ _ _ _ _ _ _ _ _ _)
      | (with_reducible exact ih6 _ _ _ _ _ _ _ _ _ _ _ _ _ _ _ _ _ _ _ _)
      | (with_reducible exact LeO.refl _)
      | (with_reducible exact LeO.none _)
      | (with_reducible refine LeO.ite ?_ ?_)
      | (with_reducible refine LeO.bind ?_ (fun _ => ?_))
      | exact ih0 _ _ _ _ _ _ _ _ _
      | exact ih1 _ _ _ _ _ _ _ _ _ _ _ _ _ _ _ _ _ _ _
      | exact ih2 _ _ _ _ _ _ _ _ _ _ _ _ _ _ _ _ _ _ _
      | exact ih3 _ _ _ _ _ _ _ _ _ _ _ _ _ _ _ _ _ _ _ _
      | exact ih4 _ _ _ _ _ _ _ _ _ _ _ _ _ _ _ _ _ _ _ _ _
      | exact ih5 _ _ _ _ _ _ _ _ _ _ _ _ _ _ _ _ _ _ _ _
      | exact ih6 _ _ _ _ _ _ _ _ _ _ _ _ _ _ _ _ _ _ _ _
      | exact LeO.none _
      | refine LeO.ite ?_ ?_
      | refine LeO.bind ?_ (fun _ => ?_)
    · intro y0 y1 y2 y3 y4 y5 y6 y7 y8 y9 y10 y11 y12 y13 y14 y15 y16 y17 y18
      unfold larderref03_ParseSpan.l0
      repeat' first
      | (with_reducible exact ih0 _ _ _ _ _ _ _ _ _)
      | (with_reducible exact ih1 _ _ _ _ _ _ _ _ _ _ _ _ _ _ _ _ _ _ _)
      | (with_reducible exact ih2 _ _ _ _ _ _ _ _ _ _ _ _ _ _ _ _ _ _ _)
      | (with_reducible exact ih3 _ _ _ _ _ _ _ _ _ _ _ _ _ _ _ _ _ _ _ _)
      | (with_reducible exact ih4 _ _ _ _ _ _ _ _ _ _ _ _ _ _ _ _ _ _ _ _ _)
      | (with_reducible exact ih5 _ _ _ _ _ _ _ _ _ _ _ _ _ _ _ _ _ _ _ _)
      | (with_reducible exact ih6 _ _ _ _ _ _ _ _ _ _ _ _ _ _ _ _ _ _ _ _)
      | (with_reducible exact LeO.refl _)
      | (with_reducible exact LeO.none _)
      | (with_reducible refine LeO.ite ?_ ?_)
      | (with_reducible refine LeO.bind ?_ (fun _ => ?_))
      | exact ih0 _ _ _ _ _ _ _ _ _
      | exact ih1 _ _ _ _ _ _ _ _ _ _ _ _ _ _ _ _ _ _ _
      | exact ih2 _ _ _ _ _ _ _ _ _ _ _ _ _ _ _ _ _ _ _
      | exact ih3 _ _ _ _ _ _ _ _ _ _ _ _ _ _ _ _ _ _ _ _
      | exact ih4 _ _ _ _ _ _ _ _ _ _ _ _ _ _ _ _ _ _ _ _ _
      | exact ih5 _ _ _ _ _ _ _ _ _ _ _ _ _ _ _ _ _ _ _ _
      | exact ih6 _ _ _ _ _ _ _ _ _ _ _ _ _ _ _ _ _ _ _ _
      | exact LeO.none _
      | refine LeO.ite ?_ ?_
      | refine LeO.bind ?_ (fun _ => ?_)
    · intro y0 y1 y2 y3 y4 y5 y6 y7 y8 y9 y10 y11 y12 y13 y14 y15 y16 y17 y18
      unfold larderref03_ParseSpan.j2
      repeat' first
      | (with_reducible exact ih0 _ _ _ _ _ _ _ _ _)
      | (with_reducible exact ih1 _ _ _ _ _ _ _ _ _ _ _ _ _ _ _ _ _ _ _)
      | (with_reducible exact ih2 _ _ _ _ _ _ _ _ _ _ _ _ _ _ _ _ _ _ _)
      | (with_reducible exact ih3 _ _ _ _ _ _ _ _ _ _ _ _ _ _ _ _ _ _ _ _)
      | (with_reducible exact ih4 _ _ _ _ _ _ _ _ _ _ _ _ _ _ _ _ _ _ _ _ _)
      | (with_reducible exact ih5 _ _ _ _ _ _ _ _ _ _ _ _ _ _ _ _ _ _ _ _)
      | (with_reducible exact ih6 _ _ _ _ _ _ _ _ _ _ _ _ _ _ _ _ _ _ _ _)
      | (with_reducible exact LeO.refl _)
      | (with_reducible exact LeO.none _)
      | (with_reducible refine LeO.ite ?_ ?_)
      | (with_reducible refine LeO.bind ?_ (fun _ => ?_))
      | exact ih0 _ _ _ _ _ _ _ _ _
      | exact ih1 _ _ _ _ _ _ _ _ _ _ _ _ _ _ _ _ _ _ _
      | exact ih2 _ _ _ _ _ _ _ _ _ _ _ _ _ _ _ _ _ _ _
      | exact ih3 _ _ _ _ _ _ _ _ _ _ _ _ _ _ _ _ _ _ _ _
      | exact ih4 _ _ _ _ _ _ _ _ _ _ _ _ _ _ _ _ _ _ _ _ _
      | exact ih5 _ _ _ _ _ _ _ _ _ _ _ _ _ _ _ _ _ _ _ _
      | exact ih6 _ _ _ _ _ _ _ _ _ _ _ _ _ _ _ _ _ _ _ _
      | exact LeO.none _
      | refine LeO.ite ?_ ?_
      | refine LeO.bind ?_ (fun _ => ?_)
    · intro y0 y1 y2 y3 y4 y5 y6 y7 y8 y9 y10 y11 y12 y13 y14 y15 y16 y17 y18 y19
      unfold larderref03_ParseSpan.j4
      repeat' first
      | (with_reducible exact ih0 _ _ _ _ _ _ _ _ _)
      | (with_reducible exact ih1 _ _ _ _ _ _ _ _ _ _ _ _ _ _ _ _ _ _ _)
      | (with_reducible exact ih2 _ _ _ _ _ _ _ _ _ _ _ _ _ _ _ _ _ _ _)
      | (with_reducible exact ih3 _ _ _ _ _ _ _ _ _ _ _ _ _ _ _ _ _ _ _ _)
      | (with_reducible exact ih4 _ _ _ _ _ _ _ _ _ _ _ _ _ _ _ _ _ _ _ _ _)
      | (with_reducible exact ih5 _ _ _ _ _ _ _ _ _ _ _ _ _ _ _ _ _ _ _ _)
      | (with_reducible exact ih6 _ _ _ _ _ _ _ _ _ _ _ _ _ _ _ _ _ _ _ _)
      | (with_reducible exact LeO.refl _)
      | (with_reducible exact LeO.none _)
      | (with_reducible refine LeO.ite ?_ ?_)
      | (with_reducible refine LeO.bind ?_ (fun _ => ?_))
      | exact ih0 _ _ _ _ _ _ _ _ _
      | exact ih1 _ _ _ _ _ _ _ _ _ _ _ _ _ _ _ _ _ _ _
      | exact ih2 _ _ _ _ _ _ _ _ _ _ _ _ _ _ _ _ _ _ _
      | exact ih3 _ _ _ _ _ _ _ _ _ _ _ _ _ _ _ _ _ _ _ _
      | exact ih4 _ _ _ _ _ _ _ _ _ _ _ _ _ _ _ _ _ _ _ _ _
      | exact ih5 _ _ _ _ _ _ _ _ _ _ _ _ _ _ _ _ _ _ _ _
      | exact ih6 _ _ _ _ _ _ _ _ _ _ _ _ _ _ _ _ _ _ _ _
      | exact LeO.none _
      | refine LeO.ite ?_ ?_
      | refine LeO.bind ?_ (fun _ => ?_)
    · intro y0 y1 y2 y3 y4 y5 y6 y7 y8 y9 y10 y11 y12 y13 y14 y15 y16 y17 y18 y19 y20
      unfold larderref03_ParseSpan.j5
      repeat' first
      | (with_reducible exact ih0 _ _ _ _ _ _ _ _ _)
      | (with_reducible exact ih1 _ _ _ _ _ _ _ _ _ _ _ _ _ _ _ _ _ _ _)
      | (with_reducible exact ih2 _ _ _ _ _ _ _ _ _ _ _ _ _ _ _ _ _ _ _)
      | (with_reducible exact ih3 _ _ _ _ _ _ _ _ _ _ _ _ _ _ _ _ _ _ _ _)
      | (with_reducible exact ih4 _ _ _ _ _ _ _ _ _ _ _ _ _ _ _ _ _ _ _ _ _)
      | (with_reducible exact ih5 _ _ _ _ _ _ _ _ _ _ _ _ _ _ _ _ _ _ _ _)
      | (with_reducible exact ih6 _ _ _ _ _ _ _ _ _ _ _ _ _ _ _ _ _ _ _ _)
      | (with_reducible exact LeO.refl _)
      | (with_reducible exact LeO.none _)
      | (with_reducible refine LeO.ite ?_ ?_)
      | (with_reducible refine LeO.bind ?_ (fun _ => ?_))
      | exact ih0 _ _ _ _ _ _ _ _ _
      | exact ih1 _ _ _ _ _ _ _ _ _ _ _ _ _ _ _ _ _ _ _
      | exact ih2 _ _ _ _ _ _ _ _ _ _ _ _ _ _ _ _ _ _ _
      | exact ih3 _ _ _ _ _ _ _ _ _ _ _ _ _ _ _ _ _ _ _ _
      | exact ih4 _ _ _ _ _ _ _ _ _ _ _ _ _ _ _ _ _ _ _ _ _
      | exact ih5 _ _ _ _ _ _ _ _ _ _ _ _ _ _ _ _ _ _ _ _
      | exact ih6 _ _ _ _ _ _ _ _ _ _ _ _ _ _ _ _ _ _ _ _
      | exact LeO.none _
      | refine LeO.ite ?_ ?_
      | refine LeO.bind ?_ (fun _ => ?_)
    · intro y0 y1 y2 y3 y4 y5 y6 y7 y8 y9 y10 y11 y12 y13 y14 y15 y16 y17 y18 y19
      unfold larderref03_ParseSpan.j6
      repeat' first
      | (with_reducible exact ih0 _ _ _ _ _ _ _ _ _)
      | (with_reducible exact ih1 _ _ _ _ _ _ _ _ _ _ _ _ _ _ _ _ _ _ _)
      | (with_reducible exact ih2 _ _ _ _ _ _ _ _ _ _ _ _ _ _ _ _ _ _ _)
      | (with_reducible exact ih3 _ _ _ _ _ _ _ _ _ _ _ _ _ _ _ _ _ _ _ _)
      | (with_reducible exact ih4 _ _ _ _ _ _ _ _ _ _ _ _ _ _ _ _ _ _ _ _ _)
      | (with_reducible exact ih5 _ _ _ _ _ _ _ _ _ _ _ _ _ _ _ _ _ _ _ _)
      | (with_reducible exact ih6 _ _ _ _ _ _ _ _ _ _ _ _ _ _ _ _ _ _ _ _)
      | (with_reducible exact LeO.refl _)
      | (with_reducible exact LeO.none _)
      | (with_reducible refine LeO.ite ?_ ?_)
      | (with_reducible refine LeO.bind ?_ (fun _ => ?_))
      | exact ih0 _ _ _ _ _ _ _ _ _
      | exact ih1 _ _ _ _ _ _ _ _ _ _ _ _ _ _ _ _ _ _ _
      | exact ih2 _ _ _ _ _ _ _ _ _ _ _ _ _ _ _ _ _ _ _
      | exact ih3 _ _ _ _ _ _ _ _ _ _ _ _ _ _ _ _ _ _ _ _
      | exact ih4 _ _ _ _ _ _ _ _ _ _ _ _ _ _ _ _ _ _ _ _ _
      | exact ih5 _ _ _ _ _ _ _ _ _ _ _ _ _ _ _ _ _ _ _ _
      | exact ih6 _ _ _ _ _ _ _ _ _ _ _ _ _ _ _ _ _ _ _ _
      | exact LeO.none _
      | refine LeO.ite ?_ ?_
      | refine LeO.bind ?_ (fun _ => ?_)
    · intro y0 y1 y2 y3 y4 y5 y6 y7 y8 y9 y10 y11 y12 y13 y14 y15 y16 y17 y18 y19
      unfold larderref03_ParseSpan.l1
      repeat' first
      | (with_reducible exact ih0 _ _ _ _ _ _ _ _ _)
      | (with_reducible exact ih1 _ _ _ _ _ _ _ _ _ _ _ _ _ _ _ _ _ _ _)
      | (with_reducible exact ih2 _ _ _ _ _ _ _ _ _ _ _ _ _ _ _ _ _ _ _)
      | (with_reducible exact ih3 _ _ _ _ _ _ _ _ _ _ _ _ _ _ _ _ _ _ _ _)
      | (with_reducible exact ih4 _ _ _ _ _ _ _ _ _ _ _ _ _ _ _ _ _ _ _ _ _)
      | (with_reducible exact ih5 _ _ _ _ _ _ _ _ _ _ _ _ _ _ _ _ _ _ _ _)
      | (with_reducible exact ih6 _ _ _ _ _ _ _ _ _ _ _ _ _ _ _ _ _ _ _ _)
      | (with_reducible exact LeO.refl _)
      | (with_reducible exact LeO.none _)
      | (with_reducible refine LeO.ite ?_ ?_)
      | (with_reducible refine LeO.bind ?_ (fun _ => ?_))
      | exact ih0 _ _ _ _ _ _ _ _ _
      | exact ih1 _ _ _ _ _ _ _ _ _ _ _ _ _ _ _ _ _ _ _
      | exact ih2 _ _ _ _ _ _ _ _ _ _ _ _ _ _ _ _ _ _ _
      | exact ih3 _ _ _ _ _ _ _ _ _ _ _ _ _ _ _ _ _ _ _ _
      | exact ih4 _ _ _ _ _ _ _ _ _ _ _ _ _ _ _ _ _ _ _ _ _
      | exact ih5 _ _ _ _ _ _ _ _ _ _ _ _ _ _ _ _ _ _ _ _
      | exact ih6 _ _ _ _ _ _ _ _ _ _ _ _ _ _ _ _ _ _ _ _
      | exact LeO.none _
      | refine LeO.ite ?_ ?_
      | refine LeO.bind ?_ (fun _ => ?_)
theorem larderref03_ParseSpan.mono : ∀ a0 k, LeO (larderref03_ParseSpan.f k a0) (larderref03_ParseSpan.f (k + 1) a0) := by
  intro a0 k
  obtain ⟨ih0, ih1, ih2, ih3, ih4, ih5, ih6⟩ := larderref03_ParseSpan.mono_l k
  unfold larderref03_ParseSpan.f
  repeat' first
      | (with_reducible exact ih0 _ _ _ _ _ _ _ _ _)
      | (with_reducible exact ih1 _ _ _ _ _ _ _ _ _ _ _ _ _ _ _ _ _ _ _)
      | (with_reducible exact ih2 _ _ _ _ _ _ _ _ _ _ _ _ _ _ _ _ _ _ _)
      | (with_reducible exact ih3 _ _ _ _ _ _ _ _ _ _ _ _ _ _ _ _ _ _ _ _)
      | (with_reducible exact ih4 _ _ _ _ _ _ _ _ _ _ _ _ _ _ _ _ _ _ _ _ _)
      | (with_reducible exact ih5 _ _ _ _ _ _ _ _ _ _ _ _ _ _ _ _ _ _ _ _)
      | (with_reducible exact ih6 _ _ _ _ _ _ _ _ _ _ _ _ _ _ _ _ _ _ _ _)
      | (with_reducible exact LeO.refl _)
      | (with_reducible exact LeO.none _)
      | (with_reducible refine LeO.ite ?_ ?_)
      | (with_reducible refine LeO.bind ?_ (fun _ => ?_))
      | exact ih0 _ _ _ _ _ _ _ _ _
      | exact ih1 _ _ _ _ _ _ _ _ _ _ _ _ _ _ _ _ _ _ _
      | exact ih2 _ _ _ _ _ _ _ _ _ _ _ _ _ _ _ _ _ _ _
      | exact ih3 _ _ _ _ _ _ _ _ _ _ _ _ _ _ _ _ _ _ _ _
      | exact ih4 _ _ _ _ _ _ _ _ _ _ _ _ _ _ _ _ _ _ _ _ _
      | exact ih5 _ _ _ _ _ _ _ _ _ _ _ _ _ _ _ _ _ _ _ _
      | exact ih6 _ _ _ _ _ _ _ _ _ _ _ _ _ _ _ _ _ _ _ _
      | exact LeO.none _
      | refine LeO.ite ?_ ?_
      | refine LeO.bind ?_ (fun _ => ?_)
set_option maxHeartbeats 8000000 in
set_option maxRecDepth 100000 in
theorem larderref03_ParseSpan.calls (k : Nat) (a0 : ByteArray) (r1 : Int) (r2 : Int) (r3 : Int) (r4 : Int) (r5 : Int) (r6 : Int) (r7 : Int) (r8 : Int) (r9 : Int) (w : World) (h : larderref03_ParseSpan.f k a0 = some (r1, r2, r3, r4, r5, r6, r7, r8, r9)) :
    Calls Try.prog 8 #[.string a0] w fun e w' => e = .returned (.tuple #[.agg #[.int .i64 r1, .int .i64 r2, .int .i64 r3, .int .i64 r4, .int .i64 r5, .int .i64 r6, .int .i64 r7], .int .i64 r8, .int .i64 r9]) ∧ Below w.heap.size w w' := by
  have hu23 := Try.underlying23
  have HB := Aside0.mk (Below.refl w.heap.size w)
  have H : (if (a0.size : Int) > 64 then (some (0, 0, 0, 0, 0, 0, 0, 1, 0)) else (if (a0.size : Int) = 0 then (larderref03_ParseSpan.j0 k a0 true 0 0 0 0 0 0 0) else (if 0 < (a0.size : Int) then (larderref03_ParseSpan.j0 k a0 ((bt a0 0) != 80) 0 0 0 0 0 0 0) else (none)))) = some (r1, r2, r3, r4, r5, r6, r7, r8, r9) := h
  clear h
  by_cases c2 : (a0.size : Int) > 64
  · rw [if_pos c2] at H
    have c2b0 : decide (64 < (a0.size : Int)) = true := decide_eq_true c2
    have c2b1 : decide (64 < a0.size) = true := decide_eq_true (by omega)
    clear c2
    simp only [Option.some.injEq, Prod.mk.injEq] at H
    obtain ⟨rfl, rfl, rfl, rfl, rfl, rfl, rfl, rfl, rfl⟩ := H
    go_enter Try.func8, Try.ntmps8
    go_wp2_with (first | ((with_reducible refine gate_dst (N := 2) rfl ?_); refine box_event ?hg (N := 2) ?hd (cs := #[.int .i64 0, .int .i64 0, .int .i64 0, .int .i64 0, .int .i64 0, .int .i64 0, .int .i64 0]) (t := 23) ?hr ?_; (case hd => rfl); (case hg => rfl); (case hr => first | (go_simp; done) | (go_simp; rfl)); intro gb80101 hg w3 hbox hb; have n0_ := Aside0.mk (below_step (by repeat (first | (with_reducible first | exact HB.out | apply below_alloc | apply pw_below_drewN | apply below_drew1) | exact HB.out)) hb); have n1_ := Aside0.mk (hbox); have n2_ := Aside0.mk ((by rw [hg]; exact (below_size (by repeat (first | (with_reducible first | exact HB.out | apply below_alloc | apply pw_below_drewN | apply below_drew1) | exact HB.out))) : w.heap.size ≤ gb80101)); have n3_ := Aside0.mk ((by rw [hg]; exact (below_size (by repeat (first | (with_reducible first | exact HB.out | apply below_alloc | apply pw_below_drewN | apply below_drew1) | exact HB.out))) : w.heap.size ≤ gb80101)); clear HB; have HB := n0_; have BK80101 := n1_; have GW80101 := n2_; have GE80101 := n3_; clear n0_ n1_ n2_ n3_; clear hb hbox hg) | ((with_reducible refine gate_dst (N := 5) rfl ?_); refine box_event ?hg (N := 5) ?hd (cs := #[.int .i64 0, .int .i64 0, .int .i64 0, .int .i64 0, .int .i64 0, .int .i64 0, .int .i64 0]) (t := 23) ?hr ?_; (case hd => rfl); (case hg => rfl); (case hr => first | (go_simp; done) | (go_simp; rfl)); intro gb80102 hg w4 hbox hb; have n0_ := Aside0.mk (blk_below (g := gb80101) (o := .cells #[.int .i64 0, .int .i64 0, .int .i64 0, .int .i64 0, .int .i64 0, .int .i64 0, .int .i64 0] 23 (0, 0)) (by (with_reducible repeat (first | refine blk_drewN ?_ _ | refine blk_drew ?_ | refine blk_alloc ?_ _)); exact BK80101.out) hb); have n1_ := Aside0.mk (below_step (by repeat (first | (with_reducible first | exact HB.out | apply below_alloc | apply pw_below_drewN | apply below_drew1 | refine below_set ?_ GE80101.out) | exact HB.out)) hb); have n2_ := Aside0.mk (hbox); have n3_ := Aside0.mk ((by rw [hg]; exact (below_size (by repeat (first | (with_reducible first | exact HB.out | apply below_alloc | apply pw_below_drewN | apply below_drew1 | refine below_set ?_ GE80101.out) | exact HB.out))) : w.heap.size ≤ gb80102)); have n4_ := Aside0.mk ((by rw [hg]; exact (below_size (by repeat (first | (with_reducible first | exact HB.out | apply below_alloc | apply pw_below_drewN | apply below_drew1 | refine below_set ?_ GE80101.out) | exact HB.out))) : w.heap.size ≤ gb80102)); have n5_ := Aside0.mk ((by rw [hg]; exact Nat.ne_of_lt (blk_lt (g := gb80101) (o := .cells #[.int .i64 0, .int .i64 0, .int .i64 0, .int .i64 0, .int .i64 0, .int .i64 0, .int .i64 0] 23 (0, 0)) (by (with_reducible repeat (first | refine blk_drewN ?_ _ | refine blk_drew ?_ | refine blk_alloc ?_ _)); exact BK80101.out)) : gb80101 ≠ gb80102)); have n6_ := Aside0.mk ((by rw [hg]; exact Nat.ne_of_gt (blk_lt (g := gb80101) (o := .cells #[.int .i64 0, .int .i64 0, .int .i64 0, .int .i64 0, .int .i64 0, .int .i64 0, .int .i64 0] 23 (0, 0)) (by (with_reducible repeat (first | refine blk_drewN ?_ _ | refine blk_drew ?_ | refine blk_alloc ?_ _)); exact BK80101.out)) : gb80102 ≠ gb80101)); clear BK80101; clear HB; have BK80101 := n0_; have HB := n1_; have BK80102 := n2_; have GW80102 := n3_; have GE80102 := n4_; have NB80101_80102 := n5_; have NB80102_80101 := n6_; clear n0_ n1_ n2_ n3_ n4_ n5_ n6_; clear hb hbox hg; have hnb5 := NB80102_80101.out; have hnc5 := NB80101_80102.out; have hcz6_0 : w4.cell? ⟨gb80102, 0, none⟩ = some (.int .i64 0) := (blk_cell BK80102.out 0).trans rfl; have hcz6_1 : w4.cell? ⟨gb80102, 1, none⟩ = some (.int .i64 0) := (blk_cell BK80102.out 1).trans rfl; have hcz6_2 : w4.cell? ⟨gb80102, 2, none⟩ = some (.int .i64 0) := (blk_cell BK80102.out 2).trans rfl; have hcz6_3 : w4.cell? ⟨gb80102, 3, none⟩ = some (.int .i64 0) := (blk_cell BK80102.out 3).trans rfl; have hcz6_4 : w4.cell? ⟨gb80102, 4, none⟩ = some (.int .i64 0) := (blk_cell BK80102.out 4).trans rfl; have hcz6_5 : w4.cell? ⟨gb80102, 5, none⟩ = some (.int .i64 0) := (blk_cell BK80102.out 5).trans rfl; have hcz6_6 : w4.cell? ⟨gb80102, 6, none⟩ = some (.int .i64 0) := (blk_cell BK80102.out 6).trans rfl; have hfz6_0 := blk_frozen BK80102.out 0; have hfz6_1 := blk_frozen BK80102.out 1; have hfz6_2 := blk_frozen BK80102.out 2; have hfz6_3 := blk_frozen BK80102.out 3; have hfz6_4 := blk_frozen BK80102.out 4; have hfz6_5 := blk_frozen BK80102.out 5; have hfz6_6 := blk_frozen BK80102.out 6; have hcz7_0 : w4.cell? ⟨gb80101, 0, none⟩ = some (.int .i64 0) := (blk_cell BK80101.out 0).trans rfl; have hcz7_1 : w4.cell? ⟨gb80101, 1, none⟩ = some (.int .i64 0) := (blk_cell BK80101.out 1).trans rfl; have hcz7_2 : w4.cell? ⟨gb80101, 2, none⟩ = some (.int .i64 0) := (blk_cell BK80101.out 2).trans rfl; have hcz7_3 : w4.cell? ⟨gb80101, 3, none⟩ = some (.int .i64 0) := (blk_cell BK80101.out 3).trans rfl; have hcz7_4 : w4.cell? ⟨gb80101, 4, none⟩ = some (.int .i64 0) := (blk_cell BK80101.out 4).trans rfl; have hcz7_5 : w4.cell? ⟨gb80101, 5, none⟩ = some (.int .i64 0) := (blk_cell BK80101.out 5).trans rfl; have hcz7_6 : w4.cell? ⟨gb80101, 6, none⟩ = some (.int .i64 0) := (blk_cell BK80101.out 6).trans rfl; have hfz7_0 := blk_frozen BK80101.out 0; have hfz7_1 := blk_frozen BK80101.out 1; have hfz7_2 := blk_frozen BK80101.out 2; have hfz7_3 := blk_frozen BK80101.out 3; have hfz7_4 := blk_frozen BK80101.out 4; have hfz7_5 := blk_frozen BK80101.out 5; have hfz7_6 := blk_frozen BK80101.out 6))
    refine bodyPost_ret (results_ctt rfl _ _ gb80101 23 #[.int .i64 0, .int .i64 0, .int .i64 0, .int .i64 0, .int .i64 0, .int .i64 0, .int .i64 0] (0, 0) _ rfl (by (with_reducible repeat (first | refine blk_drewN ?_ _ | refine blk_drew ?_ | refine blk_alloc ?_ _)); refine blk_put (cs := #[.int .i64 0, .int .i64 0, .int .i64 0, .int .i64 0, .int .i64 0, .int .i64 0, .int .i64 0]) ?_ 6 _ rfl; (with_reducible repeat (first | refine blk_drewN ?_ _ | refine blk_drew ?_ | refine blk_alloc ?_ _)); refine blk_put (cs := #[.int .i64 0, .int .i64 0, .int .i64 0, .int .i64 0, .int .i64 0, .int .i64 0, .int .i64 0]) ?_ 5 _ rfl; (with_reducible repeat (first | refine blk_drewN ?_ _ | refine blk_drew ?_ | refine blk_alloc ?_ _)); refine blk_put (cs := #[.int .i64 0, .int .i64 0, .int .i64 0, .int .i64 0, .int .i64 0, .int .i64 0, .int .i64 0]) ?_ 4 _ rfl; (with_reducible repeat (first | refine blk_drewN ?_ _ | refine blk_drew ?_ | refine blk_alloc ?_ _)); refine blk_put (cs := #[.int .i64 0, .int .i64 0, .int .i64 0, .int .i64 0, .int .i64 0, .int .i64 0, .int .i64 0]) ?_ 3 _ rfl; (with_reducible repeat (first | refine blk_drewN ?_ _ | refine blk_drew ?_ | refine blk_alloc ?_ _)); refine blk_put (cs := #[.int .i64 0, .int .i64 0, .int .i64 0, .int .i64 0, .int .i64 0, .int .i64 0, .int .i64 0]) ?_ 2 _ rfl; (with_reducible repeat (first | refine blk_drewN ?_ _ | refine blk_drew ?_ | refine blk_alloc ?_ _)); refine blk_put (cs := #[.int .i64 0, .int .i64 0, .int .i64 0, .int .i64 0, .int .i64 0, .int .i64 0, .int .i64 0]) ?_ 1 _ rfl; (with_reducible repeat (first | refine blk_drewN ?_ _ | refine blk_drew ?_ | refine blk_alloc ?_ _)); refine blk_put (cs := #[.int .i64 0, .int .i64 0, .int .i64 0, .int .i64 0, .int .i64 0, .int .i64 0, .int .i64 0]) ?_ 0 _ rfl; (with_reducible repeat (first | refine blk_drewN ?_ _ | refine blk_drew ?_ | refine blk_alloc ?_ _)); refine blk_far ?_ NB80101_80102.out _; (with_reducible repeat (first | refine blk_drewN ?_ _ | refine blk_drew ?_ | refine blk_alloc ?_ _)); refine blk_far ?_ NB80101_80102.out _; (with_reducible repeat (first | refine blk_drewN ?_ _ | refine blk_drew ?_ | refine blk_alloc ?_ _)); refine blk_far ?_ NB80101_80102.out _; (with_reducible repeat (first | refine blk_drewN ?_ _ | refine blk_drew ?_ | refine blk_alloc ?_ _)); refine blk_far ?_ NB80101_80102.out _; (with_reducible repeat (first | refine blk_drewN ?_ _ | refine blk_drew ?_ | refine blk_alloc ?_ _)); refine blk_far ?_ NB80101_80102.out _; (with_reducible repeat (first | refine blk_drewN ?_ _ | refine blk_drew ?_ | refine blk_alloc ?_ _)); refine blk_far ?_ NB80101_80102.out _; (with_reducible repeat (first | refine blk_drewN ?_ _ | refine blk_drew ?_ | refine blk_alloc ?_ _)); refine blk_far ?_ NB80101_80102.out _; (with_reducible repeat (first | refine blk_drewN ?_ _ | refine blk_drew ?_ | refine blk_alloc ?_ _)); exact BK80101.out) Try.underlying23 rfl (by kernel_rfl)) rfl ?_
    exact ⟨by first | rfl | (simp [errW_none, errW_some] <;> rfl) | (simp [*, errW_none, errW_some] <;> rfl), by repeat (first | (with_reducible first | exact HB.out | apply below_alloc | apply pw_below_drewN | apply below_drew1 | refine below_set ?_ GE80101.out | refine below_set ?_ GE80102.out) | exact HB.out)⟩
  · rw [if_neg c2] at H
    have c2b0 : decide (64 < (a0.size : Int)) = false := decide_eq_false c2
    have c2b1 : decide (64 < a0.size) = false := decide_eq_false (by omega)
    clear c2
    have HC8 := Aside0.mk H
    clear H
    go_enter Try.func8, Try.ntmps8
    go_upto_region 4 with (first | ((with_reducible refine gate_dst (N := 2) rfl ?_); refine box_event ?hg (N := 2) ?hd (cs := #[.int .i64 0, .int .i64 0, .int .i64 0, .int .i64 0, .int .i64 0, .int .i64 0, .int .i64 0]) (t := 23) ?hr ?_; (case hd => rfl); (case hg => rfl); (case hr => first | (go_simp; done) | (go_simp; rfl)); intro gb80101 hg w9 hbox hb; have n0_ := Aside0.mk (below_step (by repeat (first | (with_reducible first | exact HB.out | apply below_alloc | apply pw_below_drewN | apply below_drew1) | exact HB.out)) hb); have n1_ := Aside0.mk (hbox); have n2_ := Aside0.mk ((by rw [hg]; exact (below_size (by repeat (first | (with_reducible first | exact HB.out | apply below_alloc | apply pw_below_drewN | apply below_drew1) | exact HB.out))) : w.heap.size ≤ gb80101)); have n3_ := Aside0.mk ((by rw [hg]; exact (below_size (by repeat (first | (with_reducible first | exact HB.out | apply below_alloc | apply pw_below_drewN | apply below_drew1) | exact HB.out))) : w.heap.size ≤ gb80101)); clear HB; have HB := n0_; have BK80101 := n1_; have GW80101 := n2_; have GE80101 := n3_; clear n0_ n1_ n2_ n3_; clear hb hbox hg) | ((with_reducible refine gate_dst (N := 5) rfl ?_); refine box_event ?hg (N := 5) ?hd (cs := #[.int .i64 0, .int .i64 0, .int .i64 0, .int .i64 0, .int .i64 0, .int .i64 0, .int .i64 0]) (t := 23) ?hr ?_; (case hd => rfl); (case hg => rfl); (case hr => first | (go_simp; done) | (go_simp; rfl)); intro gb80102 hg w10 hbox hb; have n0_ := Aside0.mk (blk_below (g := gb80101) (o := .cells #[.int .i64 0, .int .i64 0, .int .i64 0, .int .i64 0, .int .i64 0, .int .i64 0, .int .i64 0] 23 (0, 0)) (by (with_reducible repeat (first | refine blk_drewN ?_ _ | refine blk_drew ?_ | refine blk_alloc ?_ _)); exact BK80101.out) hb); have n1_ := Aside0.mk (below_step (by repeat (first | (with_reducible first | exact HB.out | apply below_alloc | apply pw_below_drewN | apply below_drew1 | refine below_set ?_ GE80101.out) | exact HB.out)) hb); have n2_ := Aside0.mk (hbox); have n3_ := Aside0.mk ((by rw [hg]; exact (below_size (by repeat (first | (with_reducible first | exact HB.out | apply below_alloc | apply pw_below_drewN | apply below_drew1 | refine below_set ?_ GE80101.out) | exact HB.out))) : w.heap.size ≤ gb80102)); have n4_ := Aside0.mk ((by rw [hg]; exact (below_size (by repeat (first | (with_reducible first | exact HB.out | apply below_alloc | apply pw_below_drewN | apply below_drew1 | refine below_set ?_ GE80101.out) | exact HB.out))) : w.heap.size ≤ gb80102)); have n5_ := Aside0.mk ((by rw [hg]; exact Nat.ne_of_lt (blk_lt (g := gb80101) (o := .cells #[.int .i64 0, .int .i64 0, .int .i64 0, .int .i64 0, .int .i64 0, .int .i64 0, .int .i64 0] 23 (0, 0)) (by (with_reducible repeat (first | refine blk_drewN ?_ _ | refine blk_drew ?_ | refine blk_alloc ?_ _)); exact BK80101.out)) : gb80101 ≠ gb80102)); have n6_ := Aside0.mk ((by rw [hg]; exact Nat.ne_of_gt (blk_lt (g := gb80101) (o := .cells #[.int .i64 0, .int .i64 0, .int .i64 0, .int .i64 0, .int .i64 0, .int .i64 0, .int .i64 0] 23 (0, 0)) (by (with_reducible repeat (first | refine blk_drewN ?_ _ | refine blk_drew ?_ | refine blk_alloc ?_ _)); exact BK80101.out)) : gb80102 ≠ gb80101)); clear BK80101; clear HB; have BK80101 := n0_; have HB := n1_; have BK80102 := n2_; have GW80102 := n3_; have GE80102 := n4_; have NB80101_80102 := n5_; have NB80102_80101 := n6_; clear n0_ n1_ n2_ n3_ n4_ n5_ n6_; clear hb hbox hg; have hnb11 := NB80102_80101.out; have hnc11 := NB80101_80102.out; have hcz12_0 : w10.cell? ⟨gb80102, 0, none⟩ = some (.int .i64 0) := (blk_cell BK80102.out 0).trans rfl; have hcz12_1 : w10.cell? ⟨gb80102, 1, none⟩ = some (.int .i64 0) := (blk_cell BK80102.out 1).trans rfl; have hcz12_2 : w10.cell? ⟨gb80102, 2, none⟩ = some (.int .i64 0) := (blk_cell BK80102.out 2).trans rfl; have hcz12_3 : w10.cell? ⟨gb80102, 3, none⟩ = some (.int .i64 0) := (blk_cell BK80102.out 3).trans rfl; have hcz12_4 : w10.cell? ⟨gb80102, 4, none⟩ = some (.int .i64 0) := (blk_cell BK80102.out 4).trans rfl; have hcz12_5 : w10.cell? ⟨gb80102, 5, none⟩ = some (.int .i64 0) := (blk_cell BK80102.out 5).trans rfl; have hcz12_6 : w10.cell? ⟨gb80102, 6, none⟩ = some (.int .i64 0) := (blk_cell BK80102.out 6).trans rfl; have hfz12_0 := blk_frozen BK80102.out 0; have hfz12_1 := blk_frozen BK80102.out 1; have hfz12_2 := blk_frozen BK80102.out 2; have hfz12_3 := blk_frozen BK80102.out 3; have hfz12_4 := blk_frozen BK80102.out 4; have hfz12_5 := blk_frozen BK80102.out 5; have hfz12_6 := blk_frozen BK80102.out 6))
    (try simp only [Act.put, List.setIfInBounds_toArray, List.set_cons_zero, List.set_cons_succ])
    go_cut [26] (fun v26 wc => ∃ (kq : Nat) (x26_7 : Bool), v26 = .bool x26_7 ∧ Aside0 (larderref03_ParseSpan.j0 kq a0 x26_7 0 0 0 0 0 0 0 = some (r1, r2, r3, r4, r5, r6, r7, r8, r9)) ∧ Aside0 (kq ≤ k) ∧ Aside0 (wc.heap[gb80101]? = some (.cells #[.int .i64 0, .int .i64 0, .int .i64 0, .int .i64 0, .int .i64 0, .int .i64 0, .int .i64 0] 23 (0, 0))) ∧ Aside0 (wc.heap[gb80102]? = some (.cells #[.int .i64 0, .int .i64 0, .int .i64 0, .int .i64 0, .int .i64 0, .int .i64 0, .int .i64 0] 23 (0, 0))) ∧ Aside0 (Below w.heap.size w wc))
    case first =>
      have H := HC8.out
      clear HC8
      by_cases c13 : (a0.size : Int) = 0
      · rw [if_pos c13] at H
        have c13b0 : ((a0.size : Int) == 0) = true := beq_iff_eq.mpr c13
        have c13b1 : ((a0.size : Int) != 0) = false := bne_eq_false_iff_eq.mpr c13
        clear c13
        (first | rw [c13b0] | (simp only [i64_w, i32_w]; rw [c13b0]) | skip)
        have H' := Aside0.mk H
        clear H
        go_wp2
        go_meet
        case rel => exact ⟨_, (true), (by first | rfl | (simp; done) | (simp [*]; done)), H', ⟨by first | omega | exact Nat.le_refl _⟩, ⟨by (with_reducible repeat (first | refine blk_drewN ?_ _ | refine blk_drew ?_ | refine blk_alloc ?_ _)); refine blk_far ?_ NB80101_80102.out _; (with_reducible repeat (first | refine blk_drewN ?_ _ | refine blk_drew ?_ | refine blk_alloc ?_ _)); refine blk_far ?_ NB80101_80102.out _; (with_reducible repeat (first | refine blk_drewN ?_ _ | refine blk_drew ?_ | refine blk_alloc ?_ _)); refine blk_far ?_ NB80101_80102.out _; (with_reducible repeat (first | refine blk_drewN ?_ _ | refine blk_drew ?_ | refine blk_alloc ?_ _)); refine blk_far ?_ NB80101_80102.out _; (with_reducible repeat (first | refine blk_drewN ?_ _ | refine blk_drew ?_ | refine blk_alloc ?_ _)); refine blk_far ?_ NB80101_80102.out _; (with_reducible repeat (first | refine blk_drewN ?_ _ | refine blk_drew ?_ | refine blk_alloc ?_ _)); refine blk_far ?_ NB80101_80102.out _; (with_reducible repeat (first | refine blk_drewN ?_ _ | refine blk_drew ?_ | refine blk_alloc ?_ _)); refine blk_far ?_ NB80101_80102.out _; (with_reducible repeat (first | refine blk_drewN ?_ _ | refine blk_drew ?_ | refine blk_alloc ?_ _)); exact BK80101.out⟩, ⟨by (with_reducible repeat (first | refine blk_drewN ?_ _ | refine blk_drew ?_ | refine blk_alloc ?_ _)); refine blk_put (cs := #[.int .i64 0, .int .i64 0, .int .i64 0, .int .i64 0, .int .i64 0, .int .i64 0, .int .i64 0]) ?_ 6 _ rfl; (with_reducible repeat (first | refine blk_drewN ?_ _ | refine blk_drew ?_ | refine blk_alloc ?_ _)); refine blk_put (cs := #[.int .i64 0, .int .i64 0, .int .i64 0, .int .i64 0, .int .i64 0, .int .i64 0, .int .i64 0]) ?_ 5 _ rfl; (with_reducible repeat (first | refine blk_drewN ?_ _ | refine blk_drew ?_ | refine blk_alloc ?_ _)); refine blk_put (cs := #[.int .i64 0, .int .i64 0, .int .i64 0, .int .i64 0, .int .i64 0, .int .i64 0, .int .i64 0]) ?_ 4 _ rfl; (with_reducible repeat (first | refine blk_drewN ?_ _ | refine blk_drew ?_ | refine blk_alloc ?_ _)); refine blk_put (cs := #[.int .i64 0, .int .i64 0, .int .i64 0, .int .i64 0, .int .i64 0, .int .i64 0, .int .i64 0]) ?_ 3 _ rfl; (with_reducible repeat (first | refine blk_drewN ?_ _ | refine blk_drew ?_ | refine blk_alloc ?_ _)); refine blk_put (cs := #[.int .i64 0, .int .i64 0, .int .i64 0, .int .i64 0, .int .i64 0, .int .i64 0, .int .i64 0]) ?_ 2 _ rfl; (with_reducible repeat (first | refine blk_drewN ?_ _ | refine blk_drew ?_ | refine blk_alloc ?_ _)); refine blk_put (cs := #[.int .i64 0, .int .i64 0, .int .i64 0, .int .i64 0, .int .i64 0, .int .i64 0, .int .i64 0]) ?_ 1 _ rfl; (with_reducible repeat (first | refine blk_drewN ?_ _ | refine blk_drew ?_ | refine blk_alloc ?_ _)); refine blk_put (cs := #[.int .i64 0, .int .i64 0, .int .i64 0, .int .i64 0, .int .i64 0, .int .i64 0, .int .i64 0]) ?_ 0 _ rfl; (with_reducible repeat (first | refine blk_drewN ?_ _ | refine blk_drew ?_ | refine blk_alloc ?_ _)); exact BK80102.out⟩, ⟨by repeat (first | (with_reducible first | exact HB.out | apply below_alloc | apply pw_below_drewN | apply below_drew1 | refine below_set ?_ GE80101.out | refine below_set ?_ GE80102.out) | exact HB.out)⟩⟩
      · rw [if_neg c13] at H
        have c13b0 : ((a0.size : Int) == 0) = false := beq_eq_false_iff_ne.mpr c13
        have c13b1 : ((a0.size : Int) != 0) = true := bne_iff_ne.mpr c13
        (first | rw [c13b0] | (simp only [i64_w, i32_w]; rw [c13b0]) | skip)
        by_cases c14 : 0 < (a0.size : Int)
        · rw [if_pos c14] at H
          have c14b0 : decide (0 < (a0.size : Int)) = true := decide_eq_true c14
          have c14b1 : decide (0 < a0.size) = true := decide_eq_true (by omega)
          clear c14
          have H' := Aside0.mk H
          clear H
          have p15 : 0 ≤ (0 : Int) := (by omega)
          have q15 : 0 < a0.size := (by have : (0 : Int) < (a0.size : Int) := of_decide_eq_true (by first | (with_reducible assumption) | assumption); omega)
          have hx15 : ∀ h : 0 < a0.size, ((a0[0]'h).toNat : Int) = bt a0 0 := bt_at a0 0
          clear p15
          have qi15 : (0 < (a0.size : Int)) = True := eq_true (of_decide_eq_true (by first | (with_reducible assumption) | assumption))
          replace q15 := eq_true q15
          go_wp2
          go_meet
          case rel => exact ⟨_, (((bt a0 0) != 80)), (by first | rfl | (simp; done) | (simp [*]; done)), H', ⟨by first | omega | exact Nat.le_refl _⟩, ⟨by (with_reducible repeat (first | refine blk_drewN ?_ _ | refine blk_drew ?_ | refine blk_alloc ?_ _)); refine blk_far ?_ NB80101_80102.out _; (with_reducible repeat (first | refine blk_drewN ?_ _ | refine blk_drew ?_ | refine blk_alloc ?_ _)); refine blk_far ?_ NB80101_80102.out _; (with_reducible repeat (first | refine blk_drewN ?_ _ | refine blk_drew ?_ | refine blk_alloc ?_ _)); refine blk_far ?_ NB80101_80102.out _; (with_reducible repeat (first | refine blk_drewN ?_ _ | refine blk_drew ?_ | refine blk_alloc ?_ _)); refine blk_far ?_ NB80101_80102.out _; (with_reducible repeat (first | refine blk_drewN ?_ _ | refine blk_drew ?_ | refine blk_alloc ?_ _)); refine blk_far ?_ NB80101_80102.out _; (with_reducible repeat (first | refine blk_drewN ?_ _ | refine blk_drew ?_ | refine blk_alloc ?_ _)); refine blk_far ?_ NB80101_80102.out _; (with_reducible repeat (first | refine blk_drewN ?_ _ | refine blk_drew ?_ | refine blk_alloc ?_ _)); refine blk_far ?_ NB80101_80102.out _; (with_reducible repeat (first | refine blk_drewN ?_ _ | refine blk_drew ?_ | refine blk_alloc ?_ _)); exact BK80101.out⟩, ⟨by (with_reducible repeat (first | refine blk_drewN ?_ _ | refine blk_drew ?_ | refine blk_alloc ?_ _)); refine blk_put (cs := #[.int .i64 0, .int .i64 0, .int .i64 0, .int .i64 0, .int .i64 0, .int .i64 0, .int .i64 0]) ?_ 6 _ rfl; (with_reducible repeat (first | refine blk_drewN ?_ _ | refine blk_drew ?_ | refine blk_alloc ?_ _)); refine blk_put (cs := #[.int .i64 0, .int .i64 0, .int .i64 0, .int .i64 0, .int .i64 0, .int .i64 0, .int .i64 0]) ?_ 5 _ rfl; (with_reducible repeat (first | refine blk_drewN ?_ _ | refine blk_drew ?_ | refine blk_alloc ?_ _)); refine blk_put (cs := #[.int .i64 0, .int .i64 0, .int .i64 0, .int .i64 0, .int .i64 0, .int .i64 0, .int .i64 0]) ?_ 4 _ rfl; (with_reducible repeat (first | refine blk_drewN ?_ _ | refine blk_drew ?_ | refine blk_alloc ?_ _)); refine blk_put (cs := #[.int .i64 0, .int .i64 0, .int .i64 0, .int .i64 0, .int .i64 0, .int .i64 0, .int .i64 0]) ?_ 3 _ rfl; (with_reducible repeat (first | refine blk_drewN ?_ _ | refine blk_drew ?_ | refine blk_alloc ?_ _)); refine blk_put (cs := #[.int .i64 0, .int .i64 0, .int .i64 0, .int .i64 0, .int .i64 0, .int .i64 0, .int .i64 0]) ?_ 2 _ rfl; (with_reducible repeat (first | refine blk_drewN ?_ _ | refine blk_drew ?_ | refine blk_alloc ?_ _)); refine blk_put (cs := #[.int .i64 0, .int .i64 0, .int .i64 0, .int .i64 0, .int .i64 0, .int .i64 0, .int .i64 0]) ?_ 1 _ rfl; (with_reducible repeat (first | refine blk_drewN ?_ _ | refine blk_drew ?_ | refine blk_alloc ?_ _)); refine blk_put (cs := #[.int .i64 0, .int .i64 0, .int .i64 0, .int .i64 0, .int .i64 0, .int .i64 0, .int .i64 0]) ?_ 0 _ rfl; (with_reducible repeat (first | refine blk_drewN ?_ _ | refine blk_drew ?_ | refine blk_alloc ?_ _)); exact BK80102.out⟩, ⟨by repeat (first | (with_reducible first | exact HB.out | apply below_alloc | apply pw_below_drewN | apply below_drew1 | refine below_set ?_ GE80101.out | refine below_set ?_ GE80102.out) | exact HB.out)⟩⟩
        · rw [if_neg c14] at H
          exact absurd H (by simp)
    case rest =>
      clear HC8
      try clear c1
      try clear p1
      try clear q1
      try clear hx1
      try clear qi1
      try clear c2
      try clear c2b0
      try clear c2b1
      try clear p2
      try clear c5
      try clear c8
      try clear c11
      try clear c13
      try clear c13b0
      try clear c13b1
      try clear c14
      try clear c14b0
      try clear c14b1
      try clear p15
      try clear q15
      try clear hx15
      try clear qi15
      try clear hcz12_0
      try clear hcz12_1
      try clear hcz12_2
      try clear hcz12_3
      try clear hcz12_4
      try clear hcz12_5
      try clear hcz12_6
      try clear hcz6_0
      try clear hcz6_1
      try clear hcz6_2
      try clear hcz6_3
      try clear hcz6_4
      try clear hcz6_5
      try clear hcz6_6
      try clear hcz7_0
      try clear hcz7_1
      try clear hcz7_2
      try clear hcz7_3
      try clear hcz7_4
      try clear hcz7_5
      try clear hcz7_6
      try clear hfz12_0
      try clear hfz12_1
      try clear hfz12_2
      try clear hfz12_3
      try clear hfz12_4
      try clear hfz12_5
      try clear hfz12_6
      try clear hfz6_0
      try clear hfz6_1
      try clear hfz6_2
      try clear hfz6_3
      try clear hfz6_4
      try clear hfz6_5
      try clear hfz6_6
      try clear hfz7_0
      try clear hfz7_1
      try clear hfz7_2
      try clear hfz7_3
      try clear hfz7_4
      try clear hfz7_5
      try clear hfz7_6
      try clear p15
      try clear q15
      obtain ⟨kq, x26_7, rfl, HA, HJ7, BK80101, BK80102, HB⟩ := hcut
      cases kq with
      | zero => exact absurd HA.out (by simp [larderref03_ParseSpan.j0])
      | succ kj7 =>
        have H := HA.out
        clear HA
        simp only [larderref03_ParseSpan.j0] at H
        by_cases c16 : x26_7 = true
        · subst c16
          have H1 : (some (0, 0, 0, 0, 0, 0, 0, 34, 0)) = some (r1, r2, r3, r4, r5, r6, r7, r8, r9) := by rw [if_pos rfl] at H; exact H
          clear H
          have H := H1
          clear H1
          simp only [Option.some.injEq, Prod.mk.injEq] at H
          obtain ⟨rfl, rfl, rfl, rfl, rfl, rfl, rfl, rfl, rfl⟩ := H
          have hnb17 := NB80102_80101.out
          have hnc17 := NB80101_80102.out
          have hcz18_0 : wc.cell? ⟨gb80102, 0, none⟩ = some (.int .i64 0) := (blk_cell BK80102.out 0).trans rfl
          have hcz18_1 : wc.cell? ⟨gb80102, 1, none⟩ = some (.int .i64 0) := (blk_cell BK80102.out 1).trans rfl
          have hcz18_2 : wc.cell? ⟨gb80102, 2, none⟩ = some (.int .i64 0) := (blk_cell BK80102.out 2).trans rfl
          have hcz18_3 : wc.cell? ⟨gb80102, 3, none⟩ = some (.int .i64 0) := (blk_cell BK80102.out 3).trans rfl
          have hcz18_4 : wc.cell? ⟨gb80102, 4, none⟩ = some (.int .i64 0) := (blk_cell BK80102.out 4).trans rfl
          have hcz18_5 : wc.cell? ⟨gb80102, 5, none⟩ = some (.int .i64 0) := (blk_cell BK80102.out 5).trans rfl
          have hcz18_6 : wc.cell? ⟨gb80102, 6, none⟩ = some (.int .i64 0) := (blk_cell BK80102.out 6).trans rfl
          have hfz18_0 := blk_frozen BK80102.out 0
          have hfz18_1 := blk_frozen BK80102.out 1
          have hfz18_2 := blk_frozen BK80102.out 2
          have hfz18_3 := blk_frozen BK80102.out 3
          have hfz18_4 := blk_frozen BK80102.out 4
          have hfz18_5 := blk_frozen BK80102.out 5
          have hfz18_6 := blk_frozen BK80102.out 6
          have hcz19_0 : wc.cell? ⟨gb80101, 0, none⟩ = some (.int .i64 0) := (blk_cell BK80101.out 0).trans rfl
          have hcz19_1 : wc.cell? ⟨gb80101, 1, none⟩ = some (.int .i64 0) := (blk_cell BK80101.out 1).trans rfl
          have hcz19_2 : wc.cell? ⟨gb80101, 2, none⟩ = some (.int .i64 0) := (blk_cell BK80101.out 2).trans rfl
          have hcz19_3 : wc.cell? ⟨gb80101, 3, none⟩ = some (.int .i64 0) := (blk_cell BK80101.out 3).trans rfl
          have hcz19_4 : wc.cell? ⟨gb80101, 4, none⟩ = some (.int .i64 0) := (blk_cell BK80101.out 4).trans rfl
          have hcz19_5 : wc.cell? ⟨gb80101, 5, none⟩ = some (.int .i64 0) := (blk_cell BK80101.out 5).trans rfl
          have hcz19_6 : wc.cell? ⟨gb80101, 6, none⟩ = some (.int .i64 0) := (blk_cell BK80101.out 6).trans rfl
          have hfz19_0 := blk_frozen BK80101.out 0
          have hfz19_1 := blk_frozen BK80101.out 1
          have hfz19_2 := blk_frozen BK80101.out 2
          have hfz19_3 := blk_frozen BK80101.out 3
          have hfz19_4 := blk_frozen BK80101.out 4
          have hfz19_5 := blk_frozen BK80101.out 5
          have hfz19_6 := blk_frozen BK80101.out 6
          go_wp2
          refine bodyPost_ret (results_ctt rfl _ _ gb80101 23 #[.int .i64 0, .int .i64 0, .int .i64 0, .int .i64 0, .int .i64 0, .int .i64 0, .int .i64 0] (0, 0) _ rfl (by (with_reducible repeat (first | refine blk_drewN ?_ _ | refine blk_drew ?_ | refine blk_alloc ?_ _)); refine blk_put (cs := #[.int .i64 0, .int .i64 0, .int .i64 0, .int .i64 0, .int .i64 0, .int .i64 0, .int .i64 0]) ?_ 6 _ rfl; (with_reducible repeat (first | refine blk_drewN ?_ _ | refine blk_drew ?_ | refine blk_alloc ?_ _)); refine blk_put (cs := #[.int .i64 0, .int .i64 0, .int .i64 0, .int .i64 0, .int .i64 0, .int .i64 0, .int .i64 0]) ?_ 5 _ rfl; (with_reducible repeat (first | refine blk_drewN ?_ _ | refine blk_drew ?_ | refine blk_alloc ?_ _)); refine blk_put (cs := #[.int .i64 0, .int .i64 0, .int .i64 0, .int .i64 0, .int .i64 0, .int .i64 0, .int .i64 0]) ?_ 4 _ rfl; (with_reducible repeat (first | refine blk_drewN ?_ _ | refine blk_drew ?_ | refine blk_alloc ?_ _)); refine blk_put (cs := #[.int .i64 0, .int .i64 0, .int .i64 0, .int .i64 0, .int .i64 0, .int .i64 0, .int .i64 0]) ?_ 3 _ rfl; (with_reducible repeat (first | refine blk_drewN ?_ _ | refine blk_drew ?_ | refine blk_alloc ?_ _)); refine blk_put (cs := #[.int .i64 0, .int .i64 0, .int .i64 0, .int .i64 0, .int .i64 0, .int .i64 0, .int .i64 0]) ?_ 2 _ rfl; (with_reducible repeat (first | refine blk_drewN ?_ _ | refine blk_drew ?_ | refine blk_alloc ?_ _)); refine blk_put (cs := #[.int .i64 0, .int .i64 0, .int .i64 0, .int .i64 0, .int .i64 0, .int .i64 0, .int .i64 0]) ?_ 1 _ rfl; (with_reducible repeat (first | refine blk_drewN ?_ _ | refine blk_drew ?_ | refine blk_alloc ?_ _)); refine blk_put (cs := #[.int .i64 0, .int .i64 0, .int .i64 0, .int .i64 0, .int .i64 0, .int .i64 0, .int .i64 0]) ?_ 0 _ rfl; (with_reducible repeat (first | refine blk_drewN ?_ _ | refine blk_drew ?_ | refine blk_alloc ?_ _)); exact BK80101.out) Try.underlying23 rfl (by kernel_rfl)) rfl ?_
          exact ⟨by first | rfl | (simp [errW_none, errW_some] <;> rfl) | (simp [*, errW_none, errW_some] <;> rfl), by repeat (first | (with_reducible first | exact HB.out | apply below_alloc | apply pw_below_drewN | apply below_drew1 | refine below_set ?_ GE80101.out | refine below_set ?_ GE80102.out) | exact HB.out)⟩
        · replace c16 := Bool.eq_false_iff.mpr c16
          subst c16
          have H1 : (larderref03_ParseSpan.l0 kj7 a0 1 0 false false 0 0 0 0 0 0 0 0 0 0 0 0 0 0) = some (r1, r2, r3, r4, r5, r6, r7, r8, r9) := by rw [if_neg (show ¬ (false = true) by decide)] at H; exact H
          clear H
          have H := H1
          clear H1
          have H' := Aside0.mk H
          clear H
          have hnb20 := NB80102_80101.out
          have hnc20 := NB80101_80102.out
          have hcz21_0 : wc.cell? ⟨gb80102, 0, none⟩ = some (.int .i64 0) := (blk_cell BK80102.out 0).trans rfl
          have hcz21_1 : wc.cell? ⟨gb80102, 1, none⟩ = some (.int .i64 0) := (blk_cell BK80102.out 1).trans rfl
          have hcz21_2 : wc.cell? ⟨gb80102, 2, none⟩ = some (.int .i64 0) := (blk_cell BK80102.out 2).trans rfl
          have hcz21_3 : wc.cell? ⟨gb80102, 3, none⟩ = some (.int .i64 0) := (blk_cell BK80102.out 3).trans rfl
          have hcz21_4 : wc.cell? ⟨gb80102, 4, none⟩ = some (.int .i64 0) := (blk_cell BK80102.out 4).trans rfl
          have hcz21_5 : wc.cell? ⟨gb80102, 5, none⟩ = some (.int .i64 0) := (blk_cell BK80102.out 5).trans rfl
          have hcz21_6 : wc.cell? ⟨gb80102, 6, none⟩ = some (.int .i64 0) := (blk_cell BK80102.out 6).trans rfl
          have hfz21_0 := blk_frozen BK80102.out 0
          have hfz21_1 := blk_frozen BK80102.out 1
          have hfz21_2 := blk_frozen BK80102.out 2
          have hfz21_3 := blk_frozen BK80102.out 3
          have hfz21_4 := blk_frozen BK80102.out 4
          have hfz21_5 := blk_frozen BK80102.out 5
          have hfz21_6 := blk_frozen BK80102.out 6
          go_wp2_with (first | ((with_reducible refine gate_dst (N := 6) rfl ?_); refine box_event ?hg (N := 6) ?hd (cs := #[.int .i64 0, .int .i64 0, .int .i64 0, .int .i64 0, .int .i64 0, .int .i64 0, .int .i64 0]) (t := 23) ?hr ?_; (case hd => rfl); (case hg => rfl); (case hr => first | (go_simp; done) | (go_simp; rfl)); intro gb80103 hg w22 hbox hb; have n0_ := Aside0.mk (blk_below (g := gb80101) (o := .cells #[.int .i64 0, .int .i64 0, .int .i64 0, .int .i64 0, .int .i64 0, .int .i64 0, .int .i64 0] 23 (0, 0)) (by (with_reducible repeat (first | refine blk_drewN ?_ _ | refine blk_drew ?_ | refine blk_alloc ?_ _)); exact BK80101.out) hb); have n1_ := Aside0.mk (blk_below (g := gb80102) (o := .cells #[.int .i64 0, .int .i64 0, .int .i64 0, .int .i64 0, .int .i64 0, .int .i64 0, .int .i64 0] 23 (0, 0)) (by (with_reducible repeat (first | refine blk_drewN ?_ _ | refine blk_drew ?_ | refine blk_alloc ?_ _)); exact BK80102.out) hb); have n2_ := Aside0.mk (below_step (by repeat (first | (with_reducible first | exact HB.out | apply below_alloc | apply pw_below_drewN | apply below_drew1 | refine below_set ?_ GE80101.out | refine below_set ?_ GE80102.out) | exact HB.out)) hb); have n3_ := Aside0.mk (hbox); have n4_ := Aside0.mk ((by rw [hg]; exact (below_size (by repeat (first | (with_reducible first | exact HB.out | apply below_alloc | apply pw_below_drewN | apply below_drew1 | refine below_set ?_ GE80101.out | refine below_set ?_ GE80102.out) | exact HB.out))) : w.heap.size ≤ gb80103)); have n5_ := Aside0.mk ((by rw [hg]; exact (below_size (by repeat (first | (with_reducible first | exact HB.out | apply below_alloc | apply pw_below_drewN | apply below_drew1 | refine below_set ?_ GE80101.out | refine below_set ?_ GE80102.out) | exact HB.out))) : w.heap.size ≤ gb80103)); have n6_ := Aside0.mk ((by rw [hg]; exact Nat.ne_of_lt (blk_lt (g := gb80101) (o := .cells #[.int .i64 0, .int .i64 0, .int .i64 0, .int .i64 0, .int .i64 0, .int .i64 0, .int .i64 0] 23 (0, 0)) (by (with_reducible repeat (first | refine blk_drewN ?_ _ | refine blk_drew ?_ | refine blk_alloc ?_ _)); exact BK80101.out)) : gb80101 ≠ gb80103)); have n7_ := Aside0.mk ((by rw [hg]; exact Nat.ne_of_gt (blk_lt (g := gb80101) (o := .cells #[.int .i64 0, .int .i64 0, .int .i64 0, .int .i64 0, .int .i64 0, .int .i64 0, .int .i64 0] 23 (0, 0)) (by (with_reducible repeat (first | refine blk_drewN ?_ _ | refine blk_drew ?_ | refine blk_alloc ?_ _)); exact BK80101.out)) : gb80103 ≠ gb80101)); have n8_ := Aside0.mk ((by rw [hg]; exact Nat.ne_of_lt (blk_lt (g := gb80102) (o := .cells #[.int .i64 0, .int .i64 0, .int .i64 0, .int .i64 0, .int .i64 0, .int .i64 0, .int .i64 0] 23 (0, 0)) (by (with_reducible repeat (first | refine blk_drewN ?_ _ | refine blk_drew ?_ | refine blk_alloc ?_ _)); exact BK80102.out)) : gb80102 ≠ gb80103)); have n9_ := Aside0.mk ((by rw [hg]; exact Nat.ne_of_gt (blk_lt (g := gb80102) (o := .cells #[.int .i64 0, .int .i64 0, .int .i64 0, .int .i64 0, .int .i64 0, .int .i64 0, .int .i64 0] 23 (0, 0)) (by (with_reducible repeat (first | refine blk_drewN ?_ _ | refine blk_drew ?_ | refine blk_alloc ?_ _)); exact BK80102.out)) : gb80103 ≠ gb80102)); clear BK80101; clear BK80102; clear HB; have BK80101 := n0_; have BK80102 := n1_; have HB := n2_; have BK80103 := n3_; have GW80103 := n4_; have GE80103 := n5_; have NB80101_80103 := n6_; have NB80103_80101 := n7_; have NB80102_80103 := n8_; have NB80103_80102 := n9_; clear n0_ n1_ n2_ n3_ n4_ n5_ n6_ n7_ n8_ n9_; clear hb hbox hg; have hnb23 := NB80103_80101.out; have hnc23 := NB80101_80103.out; have hnb24 := NB80103_80102.out; have hnc24 := NB80102_80103.out; have hcz25_0 : w22.cell? ⟨gb80103, 0, none⟩ = some (.int .i64 0) := (blk_cell BK80103.out 0).trans rfl; have hcz25_1 : w22.cell? ⟨gb80103, 1, none⟩ = some (.int .i64 0) := (blk_cell BK80103.out 1).trans rfl; have hcz25_2 : w22.cell? ⟨gb80103, 2, none⟩ = some (.int .i64 0) := (blk_cell BK80103.out 2).trans rfl; have hcz25_3 : w22.cell? ⟨gb80103, 3, none⟩ = some (.int .i64 0) := (blk_cell BK80103.out 3).trans rfl; have hcz25_4 : w22.cell? ⟨gb80103, 4, none⟩ = some (.int .i64 0) := (blk_cell BK80103.out 4).trans rfl; have hcz25_5 : w22.cell? ⟨gb80103, 5, none⟩ = some (.int .i64 0) := (blk_cell BK80103.out 5).trans rfl; have hcz25_6 : w22.cell? ⟨gb80103, 6, none⟩ = some (.int .i64 0) := (blk_cell BK80103.out 6).trans rfl; have hfz25_0 := blk_frozen BK80103.out 0; have hfz25_1 := blk_frozen BK80103.out 1; have hfz25_2 := blk_frozen BK80103.out 2; have hfz25_3 := blk_frozen BK80103.out 3; have hfz25_4 := blk_frozen BK80103.out 4; have hfz25_5 := blk_frozen BK80103.out 5; have hfz25_6 := blk_frozen BK80103.out 6))
          go_loopg [7, 8, 9, 10] kj7 (fun kq v7 v8 v9 v10 w' => ∃ (x7_2 : Int) (x8_2 : Int) (x9_2 : Bool) (x10_2 : Bool) (x80102000_2 : Int) (x80102001_2 : Int) (x80102002_2 : Int) (x80102003_2 : Int) (x80102004_2 : Int) (x80102005_2 : Int) (x80102006_2 : Int) (x80104000_2 : Int) (x80104001_2 : Int) (x80104002_2 : Int) (x80104003_2 : Int) (x80104004_2 : Int) (x80104005_2 : Int) (x80104006_2 : Int), v7 = .int .i64 x7_2 ∧ v8 = .int .i64 x8_2 ∧ v9 = .bool x9_2 ∧ v10 = .bool x10_2 ∧ Aside0 (larderref03_ParseSpan.l0 kq a0 x7_2 x8_2 x9_2 x10_2 0 0 0 0 0 0 0 x80104000_2 x80104001_2 x80104002_2 x80104003_2 x80104004_2 x80104005_2 x80104006_2 = some (r1, r2, r3, r4, r5, r6, r7, r8, r9)) ∧ Aside0 (kq ≤ kj7) ∧ Aside0 (w'.heap[gb80101]? = some (.cells #[.int .i64 x80102000_2, .int .i64 x80102001_2, .int .i64 x80102002_2, .int .i64 x80102003_2, .int .i64 x80102004_2, .int .i64 x80102005_2, .int .i64 x80102006_2] 23 (0, 0))) ∧ Aside0 (w'.heap[gb80102]? = some (.cells #[.int .i64 0, .int .i64 0, .int .i64 0, .int .i64 0, .int .i64 0, .int .i64 0, .int .i64 0] 23 (0, 0))) ∧ Aside0 (w'.heap[gb80103]? = some (.cells #[.int .i64 x80104000_2, .int .i64 x80104001_2, .int .i64 x80104002_2, .int .i64 x80104003_2, .int .i64 x80104004_2, .int .i64 x80104005_2, .int .i64 x80104006_2] 23 (0, 0))) ∧ Aside0 (Below w.heap.size w w'))
          case atStart => exact ⟨(1), (0), (false), (false), (0), (0), (0), (0), (0), (0), (0), (0), (0), (0), (0), (0), (0), (0), (by first | rfl | (simp; done) | (simp [*]; done)), (by first | rfl | (simp; done) | (simp [*]; done)), (by first | rfl | (simp; done) | (simp [*]; done)), (by first | rfl | (simp; done) | (simp [*]; done)), H', ⟨Nat.le_refl _⟩, ⟨by (with_reducible repeat (first | refine blk_drewN ?_ _ | refine blk_drew ?_ | refine blk_alloc ?_ _)); refine blk_far ?_ NB80101_80103.out _; (with_reducible repeat (first | refine blk_drewN ?_ _ | refine blk_drew ?_ | refine blk_alloc ?_ _)); refine blk_far ?_ NB80101_80103.out _; (with_reducible repeat (first | refine blk_drewN ?_ _ | refine blk_drew ?_ | refine blk_alloc ?_ _)); refine blk_far ?_ NB80101_80103.out _; (with_reducible repeat (first | refine blk_drewN ?_ _ | refine blk_drew ?_ | refine blk_alloc ?_ _)); refine blk_far ?_ NB80101_80103.out _; (with_reducible repeat (first | refine blk_drewN ?_ _ | refine blk_drew ?_ | refine blk_alloc ?_ _)); refine blk_far ?_ NB80101_80103.out _; (with_reducible repeat (first | refine blk_drewN ?_ _ | refine blk_drew ?_ | refine blk_alloc ?_ _)); refine blk_far ?_ NB80101_80103.out _; (with_reducible repeat (first | refine blk_drewN ?_ _ | refine blk_drew ?_ | refine blk_alloc ?_ _)); refine blk_far ?_ NB80101_80103.out _; (with_reducible repeat (first | refine blk_drewN ?_ _ | refine blk_drew ?_ | refine blk_alloc ?_ _)); exact BK80101.out⟩, ⟨by (with_reducible repeat (first | refine blk_drewN ?_ _ | refine blk_drew ?_ | refine blk_alloc ?_ _)); refine blk_far ?_ NB80102_80103.out _; (with_reducible repeat (first | refine blk_drewN ?_ _ | refine blk_drew ?_ | refine blk_alloc ?_ _)); refine blk_far ?_ NB80102_80103.out _; (with_reducible repeat (first | refine blk_drewN ?_ _ | refine blk_drew ?_ | refine blk_alloc ?_ _)); refine blk_far ?_ NB80102_80103.out _; (with_reducible repeat (first | refine blk_drewN ?_ _ | refine blk_drew ?_ | refine blk_alloc ?_ _)); refine blk_far ?_ NB80102_80103.out _; (with_reducible repeat (first | refine blk_drewN ?_ _ | refine blk_drew ?_ | refine blk_alloc ?_ _)); refine blk_far ?_ NB80102_80103.out _; (with_reducible repeat (first | refine blk_drewN ?_ _ | refine blk_drew ?_ | refine blk_alloc ?_ _)); refine blk_far ?_ NB80102_80103.out _; (with_reducible repeat (first | refine blk_drewN ?_ _ | refine blk_drew ?_ | refine blk_alloc ?_ _)); refine blk_far ?_ NB80102_80103.out _; (with_reducible repeat (first | refine blk_drewN ?_ _ | refine blk_drew ?_ | refine blk_alloc ?_ _)); exact BK80102.out⟩, ⟨by (with_reducible repeat (first | refine blk_drewN ?_ _ | refine blk_drew ?_ | refine blk_alloc ?_ _)); refine blk_put (cs := #[.int .i64 0, .int .i64 0, .int .i64 0, .int .i64 0, .int .i64 0, .int .i64 0, .int .i64 0]) ?_ 6 _ rfl; (with_reducible repeat (first | refine blk_drewN ?_ _ | refine blk_drew ?_ | refine blk_alloc ?_ _)); refine blk_put (cs := #[.int .i64 0, .int .i64 0, .int .i64 0, .int .i64 0, .int .i64 0, .int .i64 0, .int .i64 0]) ?_ 5 _ rfl; (with_reducible repeat (first | refine blk_drewN ?_ _ | refine blk_drew ?_ | refine blk_alloc ?_ _)); refine blk_put (cs := #[.int .i64 0, .int .i64 0, .int .i64 0, .int .i64 0, .int .i64 0, .int .i64 0, .int .i64 0]) ?_ 4 _ rfl; (with_reducible repeat (first | refine blk_drewN ?_ _ | refine blk_drew ?_ | refine blk_alloc ?_ _)); refine blk_put (cs := #[.int .i64 0, .int .i64 0, .int .i64 0, .int .i64 0, .int .i64 0, .int .i64 0, .int .i64 0]) ?_ 3 _ rfl; (with_reducible repeat (first | refine blk_drewN ?_ _ | refine blk_drew ?_ | refine blk_alloc ?_ _)); refine blk_put (cs := #[.int .i64 0, .int .i64 0, .int .i64 0, .int .i64 0, .int .i64 0, .int .i64 0, .int .i64 0]) ?_ 2 _ rfl; (with_reducible repeat (first | refine blk_drewN ?_ _ | refine blk_drew ?_ | refine blk_alloc ?_ _)); refine blk_put (cs := #[.int .i64 0, .int .i64 0, .int .i64 0, .int .i64 0, .int .i64 0, .int .i64 0, .int .i64 0]) ?_ 1 _ rfl; (with_reducible repeat (first | refine blk_drewN ?_ _ | refine blk_drew ?_ | refine blk_alloc ?_ _)); refine blk_put (cs := #[.int .i64 0, .int .i64 0, .int .i64 0, .int .i64 0, .int .i64 0, .int .i64 0, .int .i64 0]) ?_ 0 _ rfl; (with_reducible repeat (first | refine blk_drewN ?_ _ | refine blk_drew ?_ | refine blk_alloc ?_ _)); exact BK80103.out⟩, ⟨by repeat (first | (with_reducible first | exact HB.out | apply below_alloc | apply pw_below_drewN | apply below_drew1 | refine below_set ?_ GE80101.out | refine below_set ?_ GE80102.out | refine below_set ?_ GE80103.out) | exact HB.out)⟩⟩
          case round =>
            clear H'
            try clear c1
            try clear p1
            try clear q1
            try clear hx1
            try clear qi1
            try clear c2
            try clear c2b0
            try clear c2b1
            try clear p2
            try clear c5
            try clear c8
            try clear c11
            try clear c13
            try clear c13b0
            try clear c13b1
            try clear c14
            try clear c14b0
            try clear c14b1
            try clear p15
            try clear q15
            try clear hx15
            try clear qi15
            try clear c16
            try clear c17
            try clear c20
            try clear c23
            try clear c24
            try clear hcz12_0
            try clear hcz12_1
            try clear hcz12_2
            try clear hcz12_3
            try clear hcz12_4
            try clear hcz12_5
            try clear hcz12_6
            try clear hcz18_0
            try clear hcz18_1
            try clear hcz18_2
            try clear hcz18_3
            try clear hcz18_4
            try clear hcz18_5
            try clear hcz18_6
            try clear hcz19_0
            try clear hcz19_1
            try clear hcz19_2
            try clear hcz19_3
            try clear hcz19_4
            try clear hcz19_5
            try clear hcz19_6
            try clear hcz21_0
            try clear hcz21_1
            try clear hcz21_2
            try clear hcz21_3
            try clear hcz21_4
            try clear hcz21_5
            try clear hcz21_6
            try clear hcz25_0
            try clear hcz25_1
            try clear hcz25_2
            try clear hcz25_3
            try clear hcz25_4
            try clear hcz25_5
            try clear hcz25_6
            try clear hcz6_0
            try clear hcz6_1
            try clear hcz6_2
            try clear hcz6_3
            try clear hcz6_4
            try clear hcz6_5
            try clear hcz6_6
            try clear hcz7_0
            try clear hcz7_1
            try clear hcz7_2
            try clear hcz7_3
            try clear hcz7_4
            try clear hcz7_5
            try clear hcz7_6
            try clear hfz12_0
            try clear hfz12_1
            try clear hfz12_2
            try clear hfz12_3
            try clear hfz12_4
            try clear hfz12_5
            try clear hfz12_6
            try clear hfz18_0
            try clear hfz18_1
            try clear hfz18_2
            try clear hfz18_3
            try clear hfz18_4
            try clear hfz18_5
            try clear hfz18_6
            try clear hfz19_0
            try clear hfz19_1
            try clear hfz19_2
            try clear hfz19_3
            try clear hfz19_4
            try clear hfz19_5
            try clear hfz19_6
            try clear hfz21_0
            try clear hfz21_1
            try clear hfz21_2
            try clear hfz21_3
            try clear hfz21_4
            try clear hfz21_5
            try clear hfz21_6
            try clear hfz25_0
            try clear hfz25_1
            try clear hfz25_2
            try clear hfz25_3
            try clear hfz25_4
            try clear hfz25_5
            try clear hfz25_6
            try clear hfz6_0
            try clear hfz6_1
            try clear hfz6_2
            try clear hfz6_3
            try clear hfz6_4
            try clear hfz6_5
            try clear hfz6_6
            try clear hfz7_0
            try clear hfz7_1
            try clear hfz7_2
            try clear hfz7_3
            try clear hfz7_4
            try clear hfz7_5
            try clear hfz7_6
            try clear p1
            try clear p15
            try clear p2
            try clear q1
            try clear q15
            obtain ⟨x7_2, x8_2, x9_2, x10_2, x80102000_2, x80102001_2, x80102002_2, x80102003_2, x80102004_2, x80102005_2, x80102006_2, x80104000_2, x80104001_2, x80104002_2, x80104003_2, x80104004_2, x80104005_2, x80104006_2, rfl, rfl, rfl, rfl, HA, HK2, BK80101, BK80102, BK80103, HB⟩ := hrel
            cases gk with
            | zero => exact absurd HA.out (by simp [larderref03_ParseSpan.l0])
            | succ k2 =>
              have H := HA.out
              clear HA
              simp only [larderref03_ParseSpan.l0] at H
              by_cases c26 : x7_2 < (a0.size : Int)
              · rw [if_pos c26] at H
                have c26b0 : decide (x7_2 < (a0.size : Int)) = true := decide_eq_true c26
                clear c26
                have HC27 := Aside0.mk H
                clear H
                go_upto_region 12 with (fail)
                go_cut [40] (fun v40 wc => ∃ (kq : Nat) (x40_26 : Bool), v40 = .bool x40_26 ∧ Aside0 (larderref03_ParseSpan.j2 kq a0 x7_2 x8_2 x9_2 x40_26 0 0 0 0 0 0 0 x80104000_2 x80104001_2 x80104002_2 x80104003_2 x80104004_2 x80104005_2 x80104006_2 = some (r1, r2, r3, r4, r5, r6, r7, r8, r9)) ∧ Aside0 (kq ≤ k2) ∧ Aside0 (wc.heap[gb80101]? = some (.cells #[.int .i64 x80102000_2, .int .i64 x80102001_2, .int .i64 x80102002_2, .int .i64 x80102003_2, .int .i64 x80102004_2, .int .i64 x80102005_2, .int .i64 x80102006_2] 23 (0, 0))) ∧ Aside0 (wc.heap[gb80102]? = some (.cells #[.int .i64 0, .int .i64 0, .int .i64 0, .int .i64 0, .int .i64 0, .int .i64 0, .int .i64 0] 23 (0, 0))) ∧ Aside0 (wc.heap[gb80103]? = some (.cells #[.int .i64 x80104000_2, .int .i64 x80104001_2, .int .i64 x80104002_2, .int .i64 x80104003_2, .int .i64 x80104004_2, .int .i64 x80104005_2, .int .i64 x80104006_2] 23 (0, 0))) ∧ Aside0 (Below w.heap.size w wc))
                case first =>
                  have H := HC27.out
                  clear HC27
                  by_cases c28 : 0 ≤ x7_2
                  · rw [if_pos c28] at H
                    have c28b0 : decide (0 ≤ x7_2) = true := decide_eq_true c28
                    clear c28
                    (first | rw [c28b0] | (simp only [i64_w, i32_w]; rw [c28b0]) | skip)
                    by_cases c30 : (bt a0 x7_2) = 84
                    · rw [if_pos c30] at H
                      have c30b0 : ((bt a0 x7_2) == 84) = true := beq_iff_eq.mpr c30
                      have c30b1 : ((bt a0 x7_2) != 84) = false := bne_eq_false_iff_eq.mpr c30
                      clear c30
                      have H' := Aside0.mk H
                      clear H
                      have p29 : 0 ≤ (x7_2 : Int) := of_decide_eq_true (by first | (with_reducible assumption) | assumption)
                      have q29 : x7_2 < (a0.size : Int) := of_decide_eq_true (by first | (with_reducible assumption) | assumption)
                      have hx29 := bt_at a0 x7_2
                      replace p29 := eq_true p29
                      replace q29 := eq_true q29
                      go_wp2
                      go_meet
                      case rel => exact ⟨_, (!x9_2), (by first | rfl | (simp; done) | (simp [*]; done)), H', ⟨by have := HJ7.out; have := HK2.out; first | omega | exact Nat.le_refl _⟩, ⟨by (with_reducible repeat (first | refine blk_drewN ?_ _ | refine blk_drew ?_ | refine blk_alloc ?_ _)); exact BK80101.out⟩, ⟨by (with_reducible repeat (first | refine blk_drewN ?_ _ | refine blk_drew ?_ | refine blk_alloc ?_ _)); exact BK80102.out⟩, ⟨by (with_reducible repeat (first | refine blk_drewN ?_ _ | refine blk_drew ?_ | refine blk_alloc ?_ _)); exact BK80103.out⟩, ⟨by repeat (first | (with_reducible first | exact HB.out | apply below_alloc | apply pw_below_drewN | apply below_drew1 | refine below_set ?_ GE80101.out | refine below_set ?_ GE80102.out | refine below_set ?_ GE80103.out) | exact HB.out)⟩⟩
                    · rw [if_neg c30] at H
                      have c30b0 : ((bt a0 x7_2) == 84) = false := beq_eq_false_iff_ne.mpr c30
                      have c30b1 : ((bt a0 x7_2) != 84) = true := bne_iff_ne.mpr c30
                      have H' := Aside0.mk H
                      clear H
                      have p29 : 0 ≤ (x7_2 : Int) := of_decide_eq_true (by first | (with_reducible assumption) | assumption)
                      have q29 : x7_2 < (a0.size : Int) := of_decide_eq_true (by first | (with_reducible assumption) | assumption)
                      have hx29 := bt_at a0 x7_2
                      replace p29 := eq_true p29
                      replace q29 := eq_true q29
                      go_wp2
                      go_meet
                      case rel => exact ⟨_, (false), (by first | rfl | (simp; done) | (simp [*]; done)), H', ⟨by have := HJ7.out; have := HK2.out; first | omega | exact Nat.le_refl _⟩, ⟨by (with_reducible repeat (first | refine blk_drewN ?_ _ | refine blk_drew ?_ | refine blk_alloc ?_ _)); exact BK80101.out⟩, ⟨by (with_reducible repeat (first | refine blk_drewN ?_ _ | refine blk_drew ?_ | refine blk_alloc ?_ _)); exact BK80102.out⟩, ⟨by (with_reducible repeat (first | refine blk_drewN ?_ _ | refine blk_drew ?_ | refine blk_alloc ?_ _)); exact BK80103.out⟩, ⟨by repeat (first | (with_reducible first | exact HB.out | apply below_alloc | apply pw_below_drewN | apply below_drew1 | refine below_set ?_ GE80101.out | refine below_set ?_ GE80102.out | refine below_set ?_ GE80103.out) | exact HB.out)⟩⟩
                  · rw [if_neg c28] at H
                    exact absurd H (by simp)
                case rest =>
                  clear HC27
                  try clear c1
                  try clear p1
                  try clear q1
                  try clear hx1
                  try clear qi1
                  try clear c2
                  try clear c2b0
                  try clear c2b1
                  try clear p2
                  try clear q2
                  try clear hx2
                  try clear c3
                  try clear c5
                  try clear c8
                  try clear c11
                  try clear c13
                  try clear c13b0
                  try clear c13b1
                  try clear c14
                  try clear c14b0
                  try clear c14b1
                  try clear p15
                  try clear q15
                  try clear hx15
                  try clear qi15
                  try clear c16
                  try clear c17
                  try clear c20
                  try clear c23
                  try clear c24
                  try clear c26
                  try clear c26b0
                  try clear c28
                  try clear c28b0
                  try clear p29
                  try clear q29
                  try clear hx29
                  try clear c30
                  try clear c30b0
                  try clear c30b1
                  try clear hcz12_0
                  try clear hcz12_1
                  try clear hcz12_2
                  try clear hcz12_3
                  try clear hcz12_4
                  try clear hcz12_5
                  try clear hcz12_6
                  try clear hcz18_0
                  try clear hcz18_1
                  try clear hcz18_2
                  try clear hcz18_3
                  try clear hcz18_4
                  try clear hcz18_5
                  try clear hcz18_6
                  try clear hcz19_0
                  try clear hcz19_1
                  try clear hcz19_2
                  try clear hcz19_3
                  try clear hcz19_4
                  try clear hcz19_5
                  try clear hcz19_6
                  try clear hcz21_0
                  try clear hcz21_1
                  try clear hcz21_2
                  try clear hcz21_3
                  try clear hcz21_4
                  try clear hcz21_5
                  try clear hcz21_6
                  try clear hcz25_0
                  try clear hcz25_1
                  try clear hcz25_2
                  try clear hcz25_3
                  try clear hcz25_4
                  try clear hcz25_5
                  try clear hcz25_6
                  try clear hcz6_0
                  try clear hcz6_1
                  try clear hcz6_2
                  try clear hcz6_3
                  try clear hcz6_4
                  try clear hcz6_5
                  try clear hcz6_6
                  try clear hcz7_0
                  try clear hcz7_1
                  try clear hcz7_2
                  try clear hcz7_3
                  try clear hcz7_4
                  try clear hcz7_5
                  try clear hcz7_6
                  try clear hfz12_0
                  try clear hfz12_1
                  try clear hfz12_2
                  try clear hfz12_3
                  try clear hfz12_4
                  try clear hfz12_5
                  try clear hfz12_6
                  try clear hfz18_0
                  try clear hfz18_1
                  try clear hfz18_2
                  try clear hfz18_3
                  try clear hfz18_4
                  try clear hfz18_5
                  try clear hfz18_6
                  try clear hfz19_0
                  try clear hfz19_1
                  try clear hfz19_2
                  try clear hfz19_3
                  try clear hfz19_4
                  try clear hfz19_5
                  try clear hfz19_6
                  try clear hfz21_0
                  try clear hfz21_1
                  try clear hfz21_2
                  try clear hfz21_3
                  try clear hfz21_4
                  try clear hfz21_5
                  try clear hfz21_6
                  try clear hfz25_0
                  try clear hfz25_1
                  try clear hfz25_2
                  try clear hfz25_3
                  try clear hfz25_4
                  try clear hfz25_5
                  try clear hfz25_6
                  try clear hfz6_0
                  try clear hfz6_1
                  try clear hfz6_2
                  try clear hfz6_3
                  try clear hfz6_4
                  try clear hfz6_5
                  try clear hfz6_6
                  try clear hfz7_0
                  try clear hfz7_1
                  try clear hfz7_2
                  try clear hfz7_3
                  try clear hfz7_4
                  try clear hfz7_5
                  try clear hfz7_6
                  try clear p1
                  try clear p15
                  try clear p2
                  try clear p29
                  try clear q1
                  try clear q15
                  try clear q29
                  obtain ⟨kq, x40_26, rfl, HA, HJ26, BK80101, BK80102, BK80103, HB⟩ := hcut
                  cases kq with
                  | zero => exact absurd HA.out (by simp [larderref03_ParseSpan.j2])
                  | succ kj26 =>
                    have H := HA.out
                    clear HA
                    simp only [larderref03_ParseSpan.j2] at H
                    by_cases c31 : x40_26 = true
                    · subst c31
                      have H1 : (larderref03_ParseSpan.l0 kj26 a0 (wrap64 (x7_2 + 1)) x8_2 true false 0 0 0 0 0 0 0 x80104000_2 x80104001_2 x80104002_2 x80104003_2 x80104004_2 x80104005_2 x80104006_2) = some (r1, r2, r3, r4, r5, r6, r7, r8, r9) := by rw [if_pos rfl] at H; exact H
                      clear H
                      have H := H1
                      clear H1
                      have H' := Aside0.mk H
                      clear H
                      go_wp2
                      go_roundg kj26
                      case measure => have := HJ7.out; have := HK2.out; have := HJ26.out; omega
                      case rel => exact ⟨(wrap64 (x7_2 + 1)), (x8_2), (true), (false), (x80102000_2), (x80102001_2), (x80102002_2), (x80102003_2), (x80102004_2), (x80102005_2), (x80102006_2), (x80104000_2), (x80104001_2), (x80104002_2), (x80104003_2), (x80104004_2), (x80104005_2), (x80104006_2), (by first | rfl | (simp; done) | (simp [*]; done)), (by first | rfl | (simp; done) | (simp [*]; done)), (by first | rfl | (simp; done) | (simp [*]; done)), (by first | rfl | (simp; done) | (simp [*]; done)), H', ⟨by have := HJ7.out; have := HK2.out; have := HJ26.out; omega⟩, ⟨by (with_reducible repeat (first | refine blk_drewN ?_ _ | refine blk_drew ?_ | refine blk_alloc ?_ _)); exact BK80101.out⟩, ⟨by (with_reducible repeat (first | refine blk_drewN ?_ _ | refine blk_drew ?_ | refine blk_alloc ?_ _)); exact BK80102.out⟩, ⟨by (with_reducible repeat (first | refine blk_drewN ?_ _ | refine blk_drew ?_ | refine blk_alloc ?_ _)); exact BK80103.out⟩, ⟨by repeat (first | (with_reducible first | exact HB.out | apply below_alloc | apply pw_below_drewN | apply below_drew1 | refine below_set ?_ GE80101.out | refine below_set ?_ GE80102.out | refine below_set ?_ GE80103.out) | exact HB.out)⟩⟩
                    · replace c31 := Bool.eq_false_iff.mpr c31
                      subst c31
                      have H1 : (larderref03_ParseSpan.l1 kj26 a0 x7_2 x8_2 x9_2 0 0 0 0 0 0 0 0 0 x80104000_2 x80104001_2 x80104002_2 x80104003_2 x80104004_2 x80104005_2 x80104006_2) = some (r1, r2, r3, r4, r5, r6, r7, r8, r9) := by rw [if_neg (show ¬ (false = true) by decide)] at H; exact H
                      clear H
                      have H := H1
                      clear H1
                      have HC32 := Aside0.mk H
                      clear H
                      go_upto_block 2 with (fail)
                      go_cut [7, 11, 12] (fun v7 v11 v12 wc => ∃ (kq : Nat) (x7_31 : Int) (x11_31 : Int) (x12_31 : Int), v7 = .int .i64 x7_31 ∧ v11 = .int .i64 x11_31 ∧ v12 = .int .i64 x12_31 ∧ Aside0 (larderref03_ParseSpan.j4 kq a0 x7_31 x8_2 x9_2 x11_31 x12_31 0 0 0 0 0 0 0 x80104000_2 x80104001_2 x80104002_2 x80104003_2 x80104004_2 x80104005_2 x80104006_2 = some (r1, r2, r3, r4, r5, r6, r7, r8, r9)) ∧ Aside0 (kq ≤ kj26) ∧ Aside0 (wc.heap[gb80101]? = some (.cells #[.int .i64 x80102000_2, .int .i64 x80102001_2, .int .i64 x80102002_2, .int .i64 x80102003_2, .int .i64 x80102004_2, .int .i64 x80102005_2, .int .i64 x80102006_2] 23 (0, 0))) ∧ Aside0 (wc.heap[gb80102]? = some (.cells #[.int .i64 0, .int .i64 0, .int .i64 0, .int .i64 0, .int .i64 0, .int .i64 0, .int .i64 0] 23 (0, 0))) ∧ Aside0 (wc.heap[gb80103]? = some (.cells #[.int .i64 x80104000_2, .int .i64 x80104001_2, .int .i64 x80104002_2, .int .i64 x80104003_2, .int .i64 x80104004_2, .int .i64 x80104005_2, .int .i64 x80104006_2] 23 (0, 0))) ∧ Aside0 (Below w.heap.size w wc))
                      case first =>
                        have H := HC32.out
                        clear HC32
                        have H' := Aside0.mk H
                        clear H
                        go_wp2
                        go_loopg [7, 11, 12] kj26 (fun kq v7 v11 v12 w' => ∃ (x7_4 : Int) (x11_4 : Int) (x12_4 : Int), v7 = .int .i64 x7_4 ∧ v11 = .int .i64 x11_4 ∧ v12 = .int .i64 x12_4 ∧ Aside0 (larderref03_ParseSpan.l1 kq a0 x7_4 x8_2 x9_2 x11_4 x12_4 0 0 0 0 0 0 0 x80104000_2 x80104001_2 x80104002_2 x80104003_2 x80104004_2 x80104005_2 x80104006_2 = some (r1, r2, r3, r4, r5, r6, r7, r8, r9)) ∧ Aside0 (kq ≤ kj26) ∧ Aside0 (w'.heap[gb80101]? = some (.cells #[.int .i64 x80102000_2, .int .i64 x80102001_2, .int .i64 x80102002_2, .int .i64 x80102003_2, .int .i64 x80102004_2, .int .i64 x80102005_2, .int .i64 x80102006_2] 23 (0, 0))) ∧ Aside0 (w'.heap[gb80102]? = some (.cells #[.int .i64 0, .int .i64 0, .int .i64 0, .int .i64 0, .int .i64 0, .int .i64 0, .int .i64 0] 23 (0, 0))) ∧ Aside0 (w'.heap[gb80103]? = some (.cells #[.int .i64 x80104000_2, .int .i64 x80104001_2, .int .i64 x80104002_2, .int .i64 x80104003_2, .int .i64 x80104004_2, .int .i64 x80104005_2, .int .i64 x80104006_2] 23 (0, 0))) ∧ Aside0 (Below w.heap.size w w'))
                        case atStart => exact ⟨(x7_2), (0), (0), (by first | rfl | (simp; done) | (simp [*]; done)), (by first | rfl | (simp; done) | (simp [*]; done)), (by first | rfl | (simp; done) | (simp [*]; done)), H', ⟨Nat.le_refl _⟩, ⟨by (with_reducible repeat (first | refine blk_drewN ?_ _ | refine blk_drew ?_ | refine blk_alloc ?_ _)); exact BK80101.out⟩, ⟨by (with_reducible repeat (first | refine blk_drewN ?_ _ | refine blk_drew ?_ | refine blk_alloc ?_ _)); exact BK80102.out⟩, ⟨by (with_reducible repeat (first | refine blk_drewN ?_ _ | refine blk_drew ?_ | refine blk_alloc ?_ _)); exact BK80103.out⟩, ⟨by repeat (first | (with_reducible first | exact HB.out | apply below_alloc | apply pw_below_drewN | apply below_drew1 | refine below_set ?_ GE80101.out | refine below_set ?_ GE80102.out | refine below_set ?_ GE80103.out) | exact HB.out)⟩⟩
                        case round =>
                          clear H'
                          try clear c1
                          try clear p1
                          try clear q1
                          try clear hx1
                          try clear qi1
                          try clear c2
                          try clear c2b0
                          try clear c2b1
                          try clear p2
                          try clear q2
                          try clear hx2
                          try clear c3
                          try clear c5
                          try clear p6
                          try clear c8
                          try clear c11
                          try clear c13
                          try clear c13b0
                          try clear c13b1
                          try clear c14
                          try clear c14b0
                          try clear c14b1
                          try clear p15
                          try clear q15
                          try clear hx15
                          try clear qi15
                          try clear c16
                          try clear c17
                          try clear c20
                          try clear c23
                          try clear c24
                          try clear c26
                          try clear c26b0
                          try clear c28
                          try clear c28b0
                          try clear p29
                          try clear q29
                          try clear hx29
                          try clear c30
                          try clear c30b0
                          try clear c30b1
                          try clear c31
                          try clear hcz12_0
                          try clear hcz12_1
                          try clear hcz12_2
                          try clear hcz12_3
                          try clear hcz12_4
                          try clear hcz12_5
                          try clear hcz12_6
                          try clear hcz18_0
                          try clear hcz18_1
                          try clear hcz18_2
                          try clear hcz18_3
                          try clear hcz18_4
                          try clear hcz18_5
                          try clear hcz18_6
                          try clear hcz19_0
                          try clear hcz19_1
                          try clear hcz19_2
                          try clear hcz19_3
                          try clear hcz19_4
                          try clear hcz19_5
                          try clear hcz19_6
                          try clear hcz21_0
                          try clear hcz21_1
                          try clear hcz21_2
                          try clear hcz21_3
                          try clear hcz21_4
                          try clear hcz21_5
                          try clear hcz21_6
                          try clear hcz25_0
                          try clear hcz25_1
                          try clear hcz25_2
                          try clear hcz25_3
                          try clear hcz25_4
                          try clear hcz25_5
                          try clear hcz25_6
                          try clear hcz6_0
                          try clear hcz6_1
                          try clear hcz6_2
                          try clear hcz6_3
                          try clear hcz6_4
                          try clear hcz6_5
                          try clear hcz6_6
                          try clear hcz7_0
                          try clear hcz7_1
                          try clear hcz7_2
                          try clear hcz7_3
                          try clear hcz7_4
                          try clear hcz7_5
                          try clear hcz7_6
                          try clear hfz12_0
                          try clear hfz12_1
                          try clear hfz12_2
                          try clear hfz12_3
                          try clear hfz12_4
                          try clear hfz12_5
                          try clear hfz12_6
                          try clear hfz18_0
                          try clear hfz18_1
                          try clear hfz18_2
                          try clear hfz18_3
                          try clear hfz18_4
                          try clear hfz18_5
                          try clear hfz18_6
                          try clear hfz19_0
                          try clear hfz19_1
                          try clear hfz19_2
                          try clear hfz19_3
                          try clear hfz19_4
                          try clear hfz19_5
                          try clear hfz19_6
                          try clear hfz21_0
                          try clear hfz21_1
                          try clear hfz21_2
                          try clear hfz21_3
                          try clear hfz21_4
                          try clear hfz21_5
                          try clear hfz21_6
                          try clear hfz25_0
                          try clear hfz25_1
                          try clear hfz25_2
                          try clear hfz25_3
                          try clear hfz25_4
                          try clear hfz25_5
                          try clear hfz25_6
                          try clear hfz6_0
                          try clear hfz6_1
                          try clear hfz6_2
                          try clear hfz6_3
                          try clear hfz6_4
                          try clear hfz6_5
                          try clear hfz6_6
                          try clear hfz7_0
                          try clear hfz7_1
                          try clear hfz7_2
                          try clear hfz7_3
                          try clear hfz7_4
                          try clear hfz7_5
                          try clear hfz7_6
                          try clear p1
                          try clear p15
                          try clear p2
                          try clear p29
                          try clear q1
                          try clear q15
                          try clear q2
                          try clear q29
                          obtain ⟨x7_4, x11_4, x12_4, rfl, rfl, rfl, HA, HK4, BK80101, BK80102, BK80103, HB⟩ := hrel
                          cases gk with
                          | zero => exact absurd HA.out (by simp [larderref03_ParseSpan.l1])
                          | succ k4 =>
                            have H := HA.out
                            clear HA
                            simp only [larderref03_ParseSpan.l1] at H
                            by_cases c33 : x7_4 < (a0.size : Int)
                            · rw [if_pos c33] at H
                              have c33b0 : decide (x7_4 < (a0.size : Int)) = true := decide_eq_true c33
                              clear c33
                              (first | rw [c33b0] | (simp only [i64_w, i32_w]; rw [c33b0]) | skip)
                              by_cases c34 : 0 ≤ x7_4
                              · rw [if_pos c34] at H
                                have c34b0 : decide (0 ≤ x7_4) = true := decide_eq_true c34
                                clear c34
                                replace H := Option.bind_eq_some_iff.mp H
                                obtain ⟨t80104, A360, H⟩ := H
                                replace H : (if t80104 = true then (if x12_4 < 9 then (larderref03_ParseSpan.l1 k4 a0 (wrap64 (x7_4 + 1)) x8_2 x9_2 (wrap64 ((wrap64 (x11_4 * 10)) + (((bt a0 x7_4) - 48) % 256))) (wrap64 (x12_4 + 1)) 0 0 0 0 0 0 0 x80104000_2 x80104001_2 x80104002_2 x80104003_2 x80104004_2 x80104005_2 x80104006_2) else (larderref03_ParseSpan.j4 k4 a0 x7_4 x8_2 x9_2 x11_4 x12_4 0 0 0 0 0 0 0 x80104000_2 x80104001_2 x80104002_2 x80104003_2 x80104004_2 x80104005_2 x80104006_2)) else (larderref03_ParseSpan.j4 k4 a0 x7_4 x8_2 x9_2 x11_4 x12_4 0 0 0 0 0 0 0 x80104000_2 x80104001_2 x80104002_2 x80104003_2 x80104004_2 x80104005_2 x80104006_2)) = some (r1, r2, r3, r4, r5, r6, r7, r8, r9) := H
                                have A36 := Aside0.mk A360
                                clear A360
                                by_cases c37 : t80104 = true
                                · subst c37
                                  have H1 : (if x12_4 < 9 then (larderref03_ParseSpan.l1 k4 a0 (wrap64 (x7_4 + 1)) x8_2 x9_2 (wrap64 ((wrap64 (x11_4 * 10)) + (((bt a0 x7_4) - 48) % 256))) (wrap64 (x12_4 + 1)) 0 0 0 0 0 0 0 x80104000_2 x80104001_2 x80104002_2 x80104003_2 x80104004_2 x80104005_2 x80104006_2) else (larderref03_ParseSpan.j4 k4 a0 x7_4 x8_2 x9_2 x11_4 x12_4 0 0 0 0 0 0 0 x80104000_2 x80104001_2 x80104002_2 x80104003_2 x80104004_2 x80104005_2 x80104006_2)) = some (r1, r2, r3, r4, r5, r6, r7, r8, r9) := by rw [if_pos rfl] at H; exact H
                                  clear H
                                  have H := H1
                                  clear H1
                                  by_cases c38 : x12_4 < 9
                                  · rw [if_pos c38] at H
                                    have c38b0 : decide (x12_4 < 9) = true := decide_eq_true c38
                                    clear c38
                                    have H' := Aside0.mk H
                                    clear H
                                    have p35 : 0 ≤ (x7_4 : Int) := of_decide_eq_true (by first | (with_reducible assumption) | assumption)
                                    have q35 : x7_4 < (a0.size : Int) := of_decide_eq_true (by first | (with_reducible assumption) | assumption)
                                    have hx35 := bt_at a0 x7_4
                                    replace p35 := eq_true p35
                                    replace q35 := eq_true q35
                                    go_wp2_with (first | (go_at_call 13; (with_reducible refine (larderref03_digit.calls (bt a0 x7_4) true _ A36.out).mono ?_); rintro e w' ⟨rfl, ⟨nd, rfl⟩⟩; have p39 : 0 ≤ (x7_4 : Int) := of_decide_eq_true (by first | (with_reducible assumption) | assumption); have q39 : x7_4 < (a0.size : Int) := of_decide_eq_true (by first | (with_reducible assumption) | assumption); have hx39 := bt_at a0 x7_4; replace p39 := eq_true p39; replace q39 := eq_true q39))
                                    go_roundg k4
                                    case measure => have := HJ7.out; have := HK2.out; have := HJ26.out; have := HK4.out; omega
                                    case rel => exact ⟨(wrap64 (x7_4 + 1)), (wrap64 ((wrap64 (x11_4 * 10)) + (((bt a0 x7_4) - 48) % 256))), (wrap64 (x12_4 + 1)), (by first | rfl | (simp; done) | (simp [*]; done)), (by first | rfl | (simp; done) | (simp [*]; done)), (by first | rfl | (simp; done) | (simp [*]; done)), H', ⟨by have := HJ7.out; have := HK2.out; have := HJ26.out; have := HK4.out; omega⟩, ⟨by (with_reducible repeat (first | refine blk_drewN ?_ _ | refine blk_drew ?_ | refine blk_alloc ?_ _)); exact BK80101.out⟩, ⟨by (with_reducible repeat (first | refine blk_drewN ?_ _ | refine blk_drew ?_ | refine blk_alloc ?_ _)); exact BK80102.out⟩, ⟨by (with_reducible repeat (first | refine blk_drewN ?_ _ | refine blk_drew ?_ | refine blk_alloc ?_ _)); exact BK80103.out⟩, ⟨by repeat (first | (with_reducible first | exact HB.out | apply below_alloc | apply pw_below_drewN | apply below_drew1 | refine below_set ?_ GE80101.out | refine below_set ?_ GE80102.out | refine below_set ?_ GE80103.out) | exact HB.out)⟩⟩
                                  · rw [if_neg c38] at H
                                    have c38b0 : decide (x12_4 < 9) = false := decide_eq_false c38
                                    clear c38
                                    have H' := Aside0.mk H
                                    clear H
                                    have p35 : 0 ≤ (x7_4 : Int) := of_decide_eq_true (by first | (with_reducible assumption) | assumption)
                                    have q35 : x7_4 < (a0.size : Int) := of_decide_eq_true (by first | (with_reducible assumption) | assumption)
                                    have hx35 := bt_at a0 x7_4
                                    replace p35 := eq_true p35
                                    replace q35 := eq_true q35
                                    go_wp2_with (first | (go_at_call 13; (with_reducible refine (larderref03_digit.calls (bt a0 x7_4) true _ A36.out).mono ?_); rintro e w' ⟨rfl, ⟨nd, rfl⟩⟩))
                                    go_meet
                                    case rel => exact ⟨_, (x7_4), (x11_4), (x12_4), (by first | rfl | (simp; done) | (simp [*]; done)), (by first | rfl | (simp; done) | (simp [*]; done)), (by first | rfl | (simp; done) | (simp [*]; done)), H', ⟨by have := HJ7.out; have := HK2.out; have := HJ26.out; have := HK4.out; first | omega | exact Nat.le_refl _⟩, ⟨by (with_reducible repeat (first | refine blk_drewN ?_ _ | refine blk_drew ?_ | refine blk_alloc ?_ _)); exact BK80101.out⟩, ⟨by (with_reducible repeat (first | refine blk_drewN ?_ _ | refine blk_drew ?_ | refine blk_alloc ?_ _)); exact BK80102.out⟩, ⟨by (with_reducible repeat (first | refine blk_drewN ?_ _ | refine blk_drew ?_ | refine blk_alloc ?_ _)); exact BK80103.out⟩, ⟨by repeat (first | (with_reducible first | exact HB.out | apply below_alloc | apply pw_below_drewN | apply below_drew1 | refine below_set ?_ GE80101.out | refine below_set ?_ GE80102.out | refine below_set ?_ GE80103.out) | exact HB.out)⟩⟩
                                · replace c37 := Bool.eq_false_iff.mpr c37
                                  subst c37
                                  have H1 : (larderref03_ParseSpan.j4 k4 a0 x7_4 x8_2 x9_2 x11_4 x12_4 0 0 0 0 0 0 0 x80104000_2 x80104001_2 x80104002_2 x80104003_2 x80104004_2 x80104005_2 x80104006_2) = some (r1, r2, r3, r4, r5, r6, r7, r8, r9) := by rw [if_neg (show ¬ (false = true) by decide)] at H; exact H
                                  clear H
                                  have H := H1
                                  clear H1
                                  have H' := Aside0.mk H
                                  clear H
                                  have p35 : 0 ≤ (x7_4 : Int) := of_decide_eq_true (by first | (with_reducible assumption) | assumption)
                                  have q35 : x7_4 < (a0.size : Int) := of_decide_eq_true (by first | (with_reducible assumption) | assumption)
                                  have hx35 := bt_at a0 x7_4
                                  replace p35 := eq_true p35
                                  replace q35 := eq_true q35
                                  go_wp2_with (first | (go_at_call 13; (with_reducible refine (larderref03_digit.calls (bt a0 x7_4) false _ A36.out).mono ?_); rintro e w' ⟨rfl, ⟨nd, rfl⟩⟩))
                                  go_meet
                                  case rel => exact ⟨_, (x7_4), (x11_4), (x12_4), (by first | rfl | (simp; done) | (simp [*]; done)), (by first | rfl | (simp; done) | (simp [*]; done)), (by first | rfl | (simp; done) | (simp [*]; done)), H', ⟨by have := HJ7.out; have := HK2.out; have := HJ26.out; have := HK4.out; first | omega | exact Nat.le_refl _⟩, ⟨by (with_reducible repeat (first | refine blk_drewN ?_ _ | refine blk_drew ?_ | refine blk_alloc ?_ _)); exact BK80101.out⟩, ⟨by (with_reducible repeat (first | refine blk_drewN ?_ _ | refine blk_drew ?_ | refine blk_alloc ?_ _)); exact BK80102.out⟩, ⟨by (with_reducible repeat (first | refine blk_drewN ?_ _ | refine blk_drew ?_ | refine blk_alloc ?_ _)); exact BK80103.out⟩, ⟨by repeat (first | (with_reducible first | exact HB.out | apply below_alloc | apply pw_below_drewN | apply below_drew1 | refine below_set ?_ GE80101.out | refine below_set ?_ GE80102.out | refine below_set ?_ GE80103.out) | exact HB.out)⟩⟩
                              · rw [if_neg c34] at H
                                exact absurd H (by simp)
                            · rw [if_neg c33] at H
                              have c33b0 : decide (x7_4 < (a0.size : Int)) = false := decide_eq_false c33
                              clear c33
                              (first | rw [c33b0] | (simp only [i64_w, i32_w]; rw [c33b0]) | skip)
                              have H' := Aside0.mk H
                              clear H
                              go_wp2
                              go_meet
                              case rel => exact ⟨_, (x7_4), (x11_4), (x12_4), (by first | rfl | (simp; done) | (simp [*]; done)), (by first | rfl | (simp; done) | (simp [*]; done)), (by first | rfl | (simp; done) | (simp [*]; done)), H', ⟨by have := HJ7.out; have := HK2.out; have := HJ26.out; have := HK4.out; first | omega | exact Nat.le_refl _⟩, ⟨by (with_reducible repeat (first | refine blk_drewN ?_ _ | refine blk_drew ?_ | refine blk_alloc ?_ _)); exact BK80101.out⟩, ⟨by (with_reducible repeat (first | refine blk_drewN ?_ _ | refine blk_drew ?_ | refine blk_alloc ?_ _)); exact BK80102.out⟩, ⟨by (with_reducible repeat (first | refine blk_drewN ?_ _ | refine blk_drew ?_ | refine blk_alloc ?_ _)); exact BK80103.out⟩, ⟨by repeat (first | (with_reducible first | exact HB.out | apply below_alloc | apply pw_below_drewN | apply below_drew1 | refine below_set ?_ GE80101.out | refine below_set ?_ GE80102.out | refine below_set ?_ GE80103.out) | exact HB.out)⟩⟩
                      case rest =>
                        clear HC32
                        try clear c1
                        try clear p1
                        try clear q1
                        try clear hx1
                        try clear qi1
                        try clear c2
                        try clear c2b0
                        try clear c2b1
                        try clear p2
                        try clear q2
                        try clear hx2
                        try clear c3
                        try clear p3
                        try clear q3
                        try clear hx3
                        try clear c5
                        try clear p6
                        try clear c8
                        try clear c11
                        try clear c13
                        try clear c13b0
                        try clear c13b1
                        try clear c14
                        try clear c14b0
                        try clear c14b1
                        try clear p15
                        try clear q15
                        try clear hx15
                        try clear qi15
                        try clear c16
                        try clear c17
                        try clear c20
                        try clear c23
                        try clear c24
                        try clear c26
                        try clear c26b0
                        try clear c28
                        try clear c28b0
                        try clear p29
                        try clear q29
                        try clear hx29
                        try clear c30
                        try clear c30b0
                        try clear c30b1
                        try clear c31
                        try clear c33
                        try clear c33b0
                        try clear c34
                        try clear c34b0
                        try clear p35
                        try clear q35
                        try clear hx35
                        try clear c37
                        try clear c38
                        try clear c38b0
                        try clear p39
                        try clear q39
                        try clear hx39
                        try clear hcz12_0
                        try clear hcz12_1
                        try clear hcz12_2
                        try clear hcz12_3
                        try clear hcz12_4
                        try clear hcz12_5
                        try clear hcz12_6
                        try clear hcz18_0
                        try clear hcz18_1
                        try clear hcz18_2
                        try clear hcz18_3
                        try clear hcz18_4
                        try clear hcz18_5
                        try clear hcz18_6
                        try clear hcz19_0
                        try clear hcz19_1
                        try clear hcz19_2
                        try clear hcz19_3
                        try clear hcz19_4
                        try clear hcz19_5
                        try clear hcz19_6
                        try clear hcz21_0
                        try clear hcz21_1
                        try clear hcz21_2
                        try clear hcz21_3
                        try clear hcz21_4
                        try clear hcz21_5
                        try clear hcz21_6
                        try clear hcz25_0
                        try clear hcz25_1
                        try clear hcz25_2
                        try clear hcz25_3
                        try clear hcz25_4
                        try clear hcz25_5
                        try clear hcz25_6
                        try clear hcz6_0
                        try clear hcz6_1
                        try clear hcz6_2
                        try clear hcz6_3
                        try clear hcz6_4
                        try clear hcz6_5
                        try clear hcz6_6
                        try clear hcz7_0
                        try clear hcz7_1
                        try clear hcz7_2
                        try clear hcz7_3
                        try clear hcz7_4
                        try clear hcz7_5
                        try clear hcz7_6
                        try clear hfz12_0
                        try clear hfz12_1
                        try clear hfz12_2
                        try clear hfz12_3
                        try clear hfz12_4
                        try clear hfz12_5
                        try clear hfz12_6
                        try clear hfz18_0
                        try clear hfz18_1
                        try clear hfz18_2
                        try clear hfz18_3
                        try clear hfz18_4
                        try clear hfz18_5
                        try clear hfz18_6
                        try clear hfz19_0
                        try clear hfz19_1
                        try clear hfz19_2
                        try clear hfz19_3
                        try clear hfz19_4
                        try clear hfz19_5
                        try clear hfz19_6
                        try clear hfz21_0
                        try clear hfz21_1
                        try clear hfz21_2
                        try clear hfz21_3
                        try clear hfz21_4
                        try clear hfz21_5
                        try clear hfz21_6
                        try clear hfz25_0
                        try clear hfz25_1
                        try clear hfz25_2
                        try clear hfz25_3
                        try clear hfz25_4
                        try clear hfz25_5
                        try clear hfz25_6
                        try clear hfz6_0
                        try clear hfz6_1
                        try clear hfz6_2
                        try clear hfz6_3
                        try clear hfz6_4
                        try clear hfz6_5
                        try clear hfz6_6
                        try clear hfz7_0
                        try clear hfz7_1
                        try clear hfz7_2
                        try clear hfz7_3
                        try clear hfz7_4
                        try clear hfz7_5
                        try clear hfz7_6
                        try clear p1
                        try clear p15
                        try clear p2
                        try clear p29
                        try clear p35
                        try clear p39
                        try clear p6
                        try clear q1
                        try clear q15
                        try clear q2
                        try clear q29
                        try clear q35
                        try clear q39
                        obtain ⟨kq, x7_31, x11_31, x12_31, rfl, rfl, rfl, HA, HJ31, BK80101, BK80102, BK80103, HB⟩ := hcut
                        cases kq with
                        | zero => exact absurd HA.out (by simp [larderref03_ParseSpan.j4])
                        | succ kj31 =>
                          have H := HA.out
                          clear HA
                          simp only [larderref03_ParseSpan.j4] at H
                          have HC40 := Aside0.mk H
                          clear H
                          go_upto_region 22 with (fail)
                          go_cut [82] (fun v82 wc => ∃ (kq : Nat) (x82_39 : Bool), v82 = .bool x82_39 ∧ Aside0 (larderref03_ParseSpan.j5 kq a0 x7_31 x8_2 x9_2 x11_31 x12_31 x82_39 0 0 0 0 0 0 0 x80104000_2 x80104001_2 x80104002_2 x80104003_2 x80104004_2 x80104005_2 x80104006_2 = some (r1, r2, r3, r4, r5, r6, r7, r8, r9)) ∧ Aside0 (kq ≤ kj31) ∧ Aside0 (wc.heap[gb80101]? = some (.cells #[.int .i64 x80102000_2, .int .i64 x80102001_2, .int .i64 x80102002_2, .int .i64 x80102003_2, .int .i64 x80102004_2, .int .i64 x80102005_2, .int .i64 x80102006_2] 23 (0, 0))) ∧ Aside0 (wc.heap[gb80102]? = some (.cells #[.int .i64 0, .int .i64 0, .int .i64 0, .int .i64 0, .int .i64 0, .int .i64 0, .int .i64 0] 23 (0, 0))) ∧ Aside0 (wc.heap[gb80103]? = some (.cells #[.int .i64 x80104000_2, .int .i64 x80104001_2, .int .i64 x80104002_2, .int .i64 x80104003_2, .int .i64 x80104004_2, .int .i64 x80104005_2, .int .i64 x80104006_2] 23 (0, 0))) ∧ Aside0 (Below w.heap.size w wc))
                          case first =>
                            have H := HC40.out
                            clear HC40
                            by_cases c41 : x12_31 = 0
                            · rw [if_pos c41] at H
                              have c41b0 : (x12_31 == 0) = true := beq_iff_eq.mpr c41
                              have c41b1 : (x12_31 != 0) = false := bne_eq_false_iff_eq.mpr c41
                              clear c41
                              (first | rw [c41b0] | (simp only [i64_w, i32_w]; rw [c41b0]) | skip)
                              have H' := Aside0.mk H
                              clear H
                              go_wp2
                              go_meet
                              case rel => exact ⟨_, (true), (by first | rfl | (simp; done) | (simp [*]; done)), H', ⟨by have := HJ7.out; have := HK2.out; have := HJ26.out; have := HJ31.out; first | omega | exact Nat.le_refl _⟩, ⟨by (with_reducible repeat (first | refine blk_drewN ?_ _ | refine blk_drew ?_ | refine blk_alloc ?_ _)); exact BK80101.out⟩, ⟨by (with_reducible repeat (first | refine blk_drewN ?_ _ | refine blk_drew ?_ | refine blk_alloc ?_ _)); exact BK80102.out⟩, ⟨by (with_reducible repeat (first | refine blk_drewN ?_ _ | refine blk_drew ?_ | refine blk_alloc ?_ _)); exact BK80103.out⟩, ⟨by repeat (first | (with_reducible first | exact HB.out | apply below_alloc | apply pw_below_drewN | apply below_drew1 | refine below_set ?_ GE80101.out | refine below_set ?_ GE80102.out | refine below_set ?_ GE80103.out) | exact HB.out)⟩⟩
                            · rw [if_neg c41] at H
                              have c41b0 : (x12_31 == 0) = false := beq_eq_false_iff_ne.mpr c41
                              have c41b1 : (x12_31 != 0) = true := bne_iff_ne.mpr c41
                              (first | rw [c41b0] | (simp only [i64_w, i32_w]; rw [c41b0]) | skip)
                              by_cases c42 : x8_2 = 7
                              · rw [if_pos c42] at H
                                have c42b0 : (x8_2 == 7) = true := beq_iff_eq.mpr c42
                                have c42b1 : (x8_2 != 7) = false := bne_eq_false_iff_eq.mpr c42
                                clear c42
                                have H' := Aside0.mk H
                                clear H
                                go_wp2
                                go_meet
                                case rel => exact ⟨_, (true), (by first | rfl | (simp; done) | (simp [*]; done)), H', ⟨by have := HJ7.out; have := HK2.out; have := HJ26.out; have := HJ31.out; first | omega | exact Nat.le_refl _⟩, ⟨by (with_reducible repeat (first | refine blk_drewN ?_ _ | refine blk_drew ?_ | refine blk_alloc ?_ _)); exact BK80101.out⟩, ⟨by (with_reducible repeat (first | refine blk_drewN ?_ _ | refine blk_drew ?_ | refine blk_alloc ?_ _)); exact BK80102.out⟩, ⟨by (with_reducible repeat (first | refine blk_drewN ?_ _ | refine blk_drew ?_ | refine blk_alloc ?_ _)); exact BK80103.out⟩, ⟨by repeat (first | (with_reducible first | exact HB.out | apply below_alloc | apply pw_below_drewN | apply below_drew1 | refine below_set ?_ GE80101.out | refine below_set ?_ GE80102.out | refine below_set ?_ GE80103.out) | exact HB.out)⟩⟩
                              · rw [if_neg c42] at H
                                have c42b0 : (x8_2 == 7) = false := beq_eq_false_iff_ne.mpr c42
                                have c42b1 : (x8_2 != 7) = true := bne_iff_ne.mpr c42
                                by_cases c43 : x8_2 = 3
                                · rw [if_pos c43] at H
                                  have c43b0 : (x8_2 == 3) = true := beq_iff_eq.mpr c43
                                  have c43b1 : (x8_2 != 3) = false := bne_eq_false_iff_eq.mpr c43
                                  clear c43
                                  have H' := Aside0.mk H
                                  clear H
                                  go_wp2
                                  go_meet
                                  case rel => exact ⟨_, (!x9_2), (by first | rfl | (simp; done) | (simp [*]; done)), H', ⟨by have := HJ7.out; have := HK2.out; have := HJ26.out; have := HJ31.out; first | omega | exact Nat.le_refl _⟩, ⟨by (with_reducible repeat (first | refine blk_drewN ?_ _ | refine blk_drew ?_ | refine blk_alloc ?_ _)); exact BK80101.out⟩, ⟨by (with_reducible repeat (first | refine blk_drewN ?_ _ | refine blk_drew ?_ | refine blk_alloc ?_ _)); exact BK80102.out⟩, ⟨by (with_reducible repeat (first | refine blk_drewN ?_ _ | refine blk_drew ?_ | refine blk_alloc ?_ _)); exact BK80103.out⟩, ⟨by repeat (first | (with_reducible first | exact HB.out | apply below_alloc | apply pw_below_drewN | apply below_drew1 | refine below_set ?_ GE80101.out | refine below_set ?_ GE80102.out | refine below_set ?_ GE80103.out) | exact HB.out)⟩⟩
                                · rw [if_neg c43] at H
                                  have c43b0 : (x8_2 == 3) = false := beq_eq_false_iff_ne.mpr c43
                                  have c43b1 : (x8_2 != 3) = true := bne_iff_ne.mpr c43
                                  have H' := Aside0.mk H
                                  clear H
                                  go_wp2
                                  go_meet
                                  case rel => exact ⟨_, (false), (by first | rfl | (simp; done) | (simp [*]; done)), H', ⟨by have := HJ7.out; have := HK2.out; have := HJ26.out; have := HJ31.out; first | omega | exact Nat.le_refl _⟩, ⟨by (with_reducible repeat (first | refine blk_drewN ?_ _ | refine blk_drew ?_ | refine blk_alloc ?_ _)); exact BK80101.out⟩, ⟨by (with_reducible repeat (first | refine blk_drewN ?_ _ | refine blk_drew ?_ | refine blk_alloc ?_ _)); exact BK80102.out⟩, ⟨by (with_reducible repeat (first | refine blk_drewN ?_ _ | refine blk_drew ?_ | refine blk_alloc ?_ _)); exact BK80103.out⟩, ⟨by repeat (first | (with_reducible first | exact HB.out | apply below_alloc | apply pw_below_drewN | apply below_drew1 | refine below_set ?_ GE80101.out | refine below_set ?_ GE80102.out | refine below_set ?_ GE80103.out) | exact HB.out)⟩⟩
                          case rest =>
                            clear HC40
                            try clear c1
                            try clear p1
                            try clear q1
                            try clear hx1
                            try clear qi1
                            try clear c2
                            try clear c2b0
                            try clear c2b1
                            try clear p2
                            try clear q2
                            try clear hx2
                            try clear c3
                            try clear p3
                            try clear q3
                            try clear hx3
                            try clear c4
                            try clear c5
                            try clear p6
                            try clear c8
                            try clear c11
                            try clear c13
                            try clear c13b0
                            try clear c13b1
                            try clear c14
                            try clear c14b0
                            try clear c14b1
                            try clear p15
                            try clear q15
                            try clear hx15
                            try clear qi15
                            try clear c16
                            try clear c17
                            try clear c20
                            try clear c23
                            try clear c24
                            try clear c26
                            try clear c26b0
                            try clear c28
                            try clear c28b0
                            try clear p29
                            try clear q29
                            try clear hx29
                            try clear c30
                            try clear c30b0
                            try clear c30b1
                            try clear c31
                            try clear c33
                            try clear c33b0
                            try clear c34
                            try clear c34b0
                            try clear p35
                            try clear q35
                            try clear hx35
                            try clear c37
                            try clear c38
                            try clear c38b0
                            try clear p39
                            try clear q39
                            try clear hx39
                            try clear c41
                            try clear c41b0
                            try clear c41b1
                            try clear c42
                            try clear c42b0
                            try clear c42b1
                            try clear c43
                            try clear c43b0
                            try clear c43b1
                            try clear hcz12_0
                            try clear hcz12_1
                            try clear hcz12_2
                            try clear hcz12_3
                            try clear hcz12_4
                            try clear hcz12_5
                            try clear hcz12_6
                            try clear hcz18_0
                            try clear hcz18_1
                            try clear hcz18_2
                            try clear hcz18_3
                            try clear hcz18_4
                            try clear hcz18_5
                            try clear hcz18_6
                            try clear hcz19_0
                            try clear hcz19_1
                            try clear hcz19_2
                            try clear hcz19_3
                            try clear hcz19_4
                            try clear hcz19_5
                            try clear hcz19_6
                            try clear hcz21_0
                            try clear hcz21_1
                            try clear hcz21_2
                            try clear hcz21_3
                            try clear hcz21_4
                            try clear hcz21_5
                            try clear hcz21_6
                            try clear hcz25_0
                            try clear hcz25_1
                            try clear hcz25_2
                            try clear hcz25_3
                            try clear hcz25_4
                            try clear hcz25_5
                            try clear hcz25_6
                            try clear hcz6_0
                            try clear hcz6_1
                            try clear hcz6_2
                            try clear hcz6_3
                            try clear hcz6_4
                            try clear hcz6_5
                            try clear hcz6_6
                            try clear hcz7_0
                            try clear hcz7_1
                            try clear hcz7_2
                            try clear hcz7_3
                            try clear hcz7_4
                            try clear hcz7_5
                            try clear hcz7_6
                            try clear hfz12_0
                            try clear hfz12_1
                            try clear hfz12_2
                            try clear hfz12_3
                            try clear hfz12_4
                            try clear hfz12_5
                            try clear hfz12_6
                            try clear hfz18_0
                            try clear hfz18_1
                            try clear hfz18_2
                            try clear hfz18_3
                            try clear hfz18_4
                            try clear hfz18_5
                            try clear hfz18_6
                            try clear hfz19_0
                            try clear hfz19_1
                            try clear hfz19_2
                            try clear hfz19_3
                            try clear hfz19_4
                            try clear hfz19_5
                            try clear hfz19_6
                            try clear hfz21_0
                            try clear hfz21_1
                            try clear hfz21_2
                            try clear hfz21_3
                            try clear hfz21_4
                            try clear hfz21_5
                            try clear hfz21_6
                            try clear hfz25_0
                            try clear hfz25_1
                            try clear hfz25_2
                            try clear hfz25_3
                            try clear hfz25_4
                            try clear hfz25_5
                            try clear hfz25_6
                            try clear hfz6_0
                            try clear hfz6_1
                            try clear hfz6_2
                            try clear hfz6_3
                            try clear hfz6_4
                            try clear hfz6_5
                            try clear hfz6_6
                            try clear hfz7_0
                            try clear hfz7_1
                            try clear hfz7_2
                            try clear hfz7_3
                            try clear hfz7_4
                            try clear hfz7_5
                            try clear hfz7_6
                            try clear p1
                            try clear p15
                            try clear p2
                            try clear p29
                            try clear p3
                            try clear p35
                            try clear p39
                            try clear p6
                            try clear q1
                            try clear q15
                            try clear q2
                            try clear q29
                            try clear q3
                            try clear q35
                            try clear q39
                            obtain ⟨kq, x82_39, rfl, HA, HJ39, BK80101, BK80102, BK80103, HB⟩ := hcut
                            cases kq with
                            | zero => exact absurd HA.out (by simp [larderref03_ParseSpan.j5])
                            | succ kj39 =>
                              have H := HA.out
                              clear HA
                              simp only [larderref03_ParseSpan.j5] at H
                              by_cases c44 : x82_39 = true
                              · subst c44
                                have H1 : (some (0, 0, 0, 0, 0, 0, 0, 34, wrap64 (x7_31 - x12_31))) = some (r1, r2, r3, r4, r5, r6, r7, r8, r9) := by rw [if_pos rfl] at H; exact H
                                clear H
                                have H := H1
                                clear H1
                                simp only [Option.some.injEq, Prod.mk.injEq] at H
                                obtain ⟨rfl, rfl, rfl, rfl, rfl, rfl, rfl, rfl, rfl⟩ := H
                                have hnb45 := NB80102_80101.out
                                have hnc45 := NB80101_80102.out
                                have hnb46 := NB80102_80103.out
                                have hnc46 := NB80103_80102.out
                                have hcz47_0 : wc.cell? ⟨gb80102, 0, none⟩ = some (.int .i64 0) := (blk_cell BK80102.out 0).trans rfl
                                have hcz47_1 : wc.cell? ⟨gb80102, 1, none⟩ = some (.int .i64 0) := (blk_cell BK80102.out 1).trans rfl
                                have hcz47_2 : wc.cell? ⟨gb80102, 2, none⟩ = some (.int .i64 0) := (blk_cell BK80102.out 2).trans rfl
                                have hcz47_3 : wc.cell? ⟨gb80102, 3, none⟩ = some (.int .i64 0) := (blk_cell BK80102.out 3).trans rfl
                                have hcz47_4 : wc.cell? ⟨gb80102, 4, none⟩ = some (.int .i64 0) := (blk_cell BK80102.out 4).trans rfl
                                have hcz47_5 : wc.cell? ⟨gb80102, 5, none⟩ = some (.int .i64 0) := (blk_cell BK80102.out 5).trans rfl
                                have hcz47_6 : wc.cell? ⟨gb80102, 6, none⟩ = some (.int .i64 0) := (blk_cell BK80102.out 6).trans rfl
                                have hfz47_0 := blk_frozen BK80102.out 0
                                have hfz47_1 := blk_frozen BK80102.out 1
                                have hfz47_2 := blk_frozen BK80102.out 2
                                have hfz47_3 := blk_frozen BK80102.out 3
                                have hfz47_4 := blk_frozen BK80102.out 4
                                have hfz47_5 := blk_frozen BK80102.out 5
                                have hfz47_6 := blk_frozen BK80102.out 6
                                have hnb48 := NB80101_80103.out
                                have hnc48 := NB80103_80101.out
                                have hcz49_0 : wc.cell? ⟨gb80101, 0, none⟩ = some (.int .i64 x80102000_2) := (blk_cell BK80101.out 0).trans rfl
                                have hcz49_1 : wc.cell? ⟨gb80101, 1, none⟩ = some (.int .i64 x80102001_2) := (blk_cell BK80101.out 1).trans rfl
                                have hcz49_2 : wc.cell? ⟨gb80101, 2, none⟩ = some (.int .i64 x80102002_2) := (blk_cell BK80101.out 2).trans rfl
                                have hcz49_3 : wc.cell? ⟨gb80101, 3, none⟩ = some (.int .i64 x80102003_2) := (blk_cell BK80101.out 3).trans rfl
                                have hcz49_4 : wc.cell? ⟨gb80101, 4, none⟩ = some (.int .i64 x80102004_2) := (blk_cell BK80101.out 4).trans rfl
                                have hcz49_5 : wc.cell? ⟨gb80101, 5, none⟩ = some (.int .i64 x80102005_2) := (blk_cell BK80101.out 5).trans rfl
                                have hcz49_6 : wc.cell? ⟨gb80101, 6, none⟩ = some (.int .i64 x80102006_2) := (blk_cell BK80101.out 6).trans rfl
                                have hfz49_0 := blk_frozen BK80101.out 0
                                have hfz49_1 := blk_frozen BK80101.out 1
                                have hfz49_2 := blk_frozen BK80101.out 2
                                have hfz49_3 := blk_frozen BK80101.out 3
                                have hfz49_4 := blk_frozen BK80101.out 4
                                have hfz49_5 := blk_frozen BK80101.out 5
                                have hfz49_6 := blk_frozen BK80101.out 6
                                go_wp2
                                refine bodyPost_ret (results_ctt rfl _ _ gb80101 23 #[.int .i64 0, .int .i64 0, .int .i64 0, .int .i64 0, .int .i64 0, .int .i64 0, .int .i64 0] (0, 0) _ rfl (by (with_reducible repeat (first | refine blk_drewN ?_ _ | refine blk_drew ?_ | refine blk_alloc ?_ _)); refine blk_put (cs := #[.int .i64 0, .int .i64 0, .int .i64 0, .int .i64 0, .int .i64 0, .int .i64 0, .int .i64 x80102006_2]) ?_ 6 _ rfl; (with_reducible repeat (first | refine blk_drewN ?_ _ | refine blk_drew ?_ | refine blk_alloc ?_ _)); refine blk_put (cs := #[.int .i64 0, .int .i64 0, .int .i64 0, .int .i64 0, .int .i64 0, .int .i64 x80102005_2, .int .i64 x80102006_2]) ?_ 5 _ rfl; (with_reducible repeat (first | refine blk_drewN ?_ _ | refine blk_drew ?_ | refine blk_alloc ?_ _)); refine blk_put (cs := #[.int .i64 0, .int .i64 0, .int .i64 0, .int .i64 0, .int .i64 x80102004_2, .int .i64 x80102005_2, .int .i64 x80102006_2]) ?_ 4 _ rfl; (with_reducible repeat (first | refine blk_drewN ?_ _ | refine blk_drew ?_ | refine blk_alloc ?_ _)); refine blk_put (cs := #[.int .i64 0, .int .i64 0, .int .i64 0, .int .i64 x80102003_2, .int .i64 x80102004_2, .int .i64 x80102005_2, .int .i64 x80102006_2]) ?_ 3 _ rfl; (with_reducible repeat (first | refine blk_drewN ?_ _ | refine blk_drew ?_ | refine blk_alloc ?_ _)); refine blk_put (cs := #[.int .i64 0, .int .i64 0, .int .i64 x80102002_2, .int .i64 x80102003_2, .int .i64 x80102004_2, .int .i64 x80102005_2, .int .i64 x80102006_2]) ?_ 2 _ rfl; (with_reducible repeat (first | refine blk_drewN ?_ _ | refine blk_drew ?_ | refine blk_alloc ?_ _)); refine blk_put (cs := #[.int .i64 0, .int .i64 x80102001_2, .int .i64 x80102002_2, .int .i64 x80102003_2, .int .i64 x80102004_2, .int .i64 x80102005_2, .int .i64 x80102006_2]) ?_ 1 _ rfl; (with_reducible repeat (first | refine blk_drewN ?_ _ | refine blk_drew ?_ | refine blk_alloc ?_ _)); refine blk_put (cs := #[.int .i64 x80102000_2, .int .i64 x80102001_2, .int .i64 x80102002_2, .int .i64 x80102003_2, .int .i64 x80102004_2, .int .i64 x80102005_2, .int .i64 x80102006_2]) ?_ 0 _ rfl; (with_reducible repeat (first | refine blk_drewN ?_ _ | refine blk_drew ?_ | refine blk_alloc ?_ _)); exact BK80101.out) Try.underlying23 rfl (by kernel_rfl)) rfl ?_
                                exact ⟨by first | rfl | (simp [errW_none, errW_some] <;> rfl) | (simp [*, errW_none, errW_some] <;> rfl), by repeat (first | (with_reducible first | exact HB.out | apply below_alloc | apply pw_below_drewN | apply below_drew1 | refine below_set ?_ GE80101.out | refine below_set ?_ GE80102.out | refine below_set ?_ GE80103.out) | exact HB.out)⟩
                              · replace c44 := Bool.eq_false_iff.mpr c44
                                subst c44
                                have H1 : (if x7_31 = (a0.size : Int) then (some (0, 0, 0, 0, 0, 0, 0, 34, x7_31)) else (if 0 ≤ x7_31 then (if x7_31 < (a0.size : Int) then (if (bt a0 x7_31) = 87 then (if x8_2 = 0 then (larderref03_ParseSpan.j6 kj39 a0 x7_31 x8_2 x9_2 x11_31 (!x9_2) 0 0 0 0 0 0 0 x80104000_2 x80104001_2 x80104002_2 x80104003_2 x80104004_2 x80104005_2 x80104006_2) else (larderref03_ParseSpan.j6 kj39 a0 x7_31 x8_2 x9_2 x11_31 false 0 0 0 0 0 0 0 x80104000_2 x80104001_2 x80104002_2 x80104003_2 x80104004_2 x80104005_2 x80104006_2)) else (larderref03_ParseSpan.j6 kj39 a0 x7_31 x8_2 x9_2 x11_31 false 0 0 0 0 0 0 0 x80104000_2 x80104001_2 x80104002_2 x80104003_2 x80104004_2 x80104005_2 x80104006_2)) else (none)) else (none))) = some (r1, r2, r3, r4, r5, r6, r7, r8, r9) := by rw [if_neg (show ¬ (false = true) by decide)] at H; exact H
                                clear H
                                have H := H1
                                clear H1
                                by_cases c50 : x7_31 = (a0.size : Int)
                                · rw [if_pos c50] at H
                                  have c50b0 : (x7_31 == (a0.size : Int)) = true := beq_iff_eq.mpr c50
                                  have c50b1 : (x7_31 != (a0.size : Int)) = false := bne_eq_false_iff_eq.mpr c50
                                  clear c50
                                  simp only [Option.some.injEq, Prod.mk.injEq] at H
                                  obtain ⟨rfl, rfl, rfl, rfl, rfl, rfl, rfl, rfl, rfl⟩ := H
                                  have hnb51 := NB80102_80101.out
                                  have hnc51 := NB80101_80102.out
                                  have hnb52 := NB80102_80103.out
                                  have hnc52 := NB80103_80102.out
                                  have hcz53_0 : wc.cell? ⟨gb80102, 0, none⟩ = some (.int .i64 0) := (blk_cell BK80102.out 0).trans rfl
                                  have hcz53_1 : wc.cell? ⟨gb80102, 1, none⟩ = some (.int .i64 0) := (blk_cell BK80102.out 1).trans rfl
                                  have hcz53_2 : wc.cell? ⟨gb80102, 2, none⟩ = some (.int .i64 0) := (blk_cell BK80102.out 2).trans rfl
                                  have hcz53_3 : wc.cell? ⟨gb80102, 3, none⟩ = some (.int .i64 0) := (blk_cell BK80102.out 3).trans rfl
                                  have hcz53_4 : wc.cell? ⟨gb80102, 4, none⟩ = some (.int .i64 0) := (blk_cell BK80102.out 4).trans rfl
                                  have hcz53_5 : wc.cell? ⟨gb80102, 5, none⟩ = some (.int .i64 0) := (blk_cell BK80102.out 5).trans rfl
                                  have hcz53_6 : wc.cell? ⟨gb80102, 6, none⟩ = some (.int .i64 0) := (blk_cell BK80102.out 6).trans rfl
                                  have hfz53_0 := blk_frozen BK80102.out 0
                                  have hfz53_1 := blk_frozen BK80102.out 1
                                  have hfz53_2 := blk_frozen BK80102.out 2
                                  have hfz53_3 := blk_frozen BK80102.out 3
                                  have hfz53_4 := blk_frozen BK80102.out 4
                                  have hfz53_5 := blk_frozen BK80102.out 5
                                  have hfz53_6 := blk_frozen BK80102.out 6
                                  have hnb54 := NB80101_80103.out
                                  have hnc54 := NB80103_80101.out
                                  have hcz55_0 : wc.cell? ⟨gb80101, 0, none⟩ = some (.int .i64 x80102000_2) := (blk_cell BK80101.out 0).trans rfl
                                  have hcz55_1 : wc.cell? ⟨gb80101, 1, none⟩ = some (.int .i64 x80102001_2) := (blk_cell BK80101.out 1).trans rfl
                                  have hcz55_2 : wc.cell? ⟨gb80101, 2, none⟩ = some (.int .i64 x80102002_2) := (blk_cell BK80101.out 2).trans rfl
                                  have hcz55_3 : wc.cell? ⟨gb80101, 3, none⟩ = some (.int .i64 x80102003_2) := (blk_cell BK80101.out 3).trans rfl
                                  have hcz55_4 : wc.cell? ⟨gb80101, 4, none⟩ = some (.int .i64 x80102004_2) := (blk_cell BK80101.out 4).trans rfl
                                  have hcz55_5 : wc.cell? ⟨gb80101, 5, none⟩ = some (.int .i64 x80102005_2) := (blk_cell BK80101.out 5).trans rfl
                                  have hcz55_6 : wc.cell? ⟨gb80101, 6, none⟩ = some (.int .i64 x80102006_2) := (blk_cell BK80101.out 6).trans rfl
                                  have hfz55_0 := blk_frozen BK80101.out 0
                                  have hfz55_1 := blk_frozen BK80101.out 1
                                  have hfz55_2 := blk_frozen BK80101.out 2
                                  have hfz55_3 := blk_frozen BK80101.out 3
                                  have hfz55_4 := blk_frozen BK80101.out 4
                                  have hfz55_5 := blk_frozen BK80101.out 5
                                  have hfz55_6 := blk_frozen BK80101.out 6
                                  go_wp2
                                  refine bodyPost_ret (results_ctt rfl _ _ gb80101 23 #[.int .i64 0, .int .i64 0, .int .i64 0, .int .i64 0, .int .i64 0, .int .i64 0, .int .i64 0] (0, 0) _ rfl (by (with_reducible repeat (first | refine blk_drewN ?_ _ | refine blk_drew ?_ | refine blk_alloc ?_ _)); refine blk_put (cs := #[.int .i64 0, .int .i64 0, .int .i64 0, .int .i64 0, .int .i64 0, .int .i64 0, .int .i64 x80102006_2]) ?_ 6 _ rfl; (with_reducible repeat (first | refine blk_drewN ?_ _ | refine blk_drew ?_ | refine blk_alloc ?_ _)); refine blk_put (cs := #[.int .i64 0, .int .i64 0, .int .i64 0, .int .i64 0, .int .i64 0, .int .i64 x80102005_2, .int .i64 x80102006_2]) ?_ 5 _ rfl; (with_reducible repeat (first | refine blk_drewN ?_ _ | refine blk_drew ?_ | refine blk_alloc ?_ _)); refine blk_put (cs := #[.int .i64 0, .int .i64 0, .int .i64 0, .int .i64 0, .int .i64 x80102004_2, .int .i64 x80102005_2, .int .i64 x80102006_2]) ?_ 4 _ rfl; (with_reducible repeat (first | refine blk_drewN ?_ _ | refine blk_drew ?_ | refine blk_alloc ?_ _)); refine blk_put (cs := #[.int .i64 0, .int .i64 0, .int .i64 0, .int .i64 x80102003_2, .int .i64 x80102004_2, .int .i64 x80102005_2, .int .i64 x80102006_2]) ?_ 3 _ rfl; (with_reducible repeat (first | refine blk_drewN ?_ _ | refine blk_drew ?_ | refine blk_alloc ?_ _)); refine blk_put (cs := #[.int .i64 0, .int .i64 0, .int .i64 x80102002_2, .int .i64 x80102003_2, .int .i64 x80102004_2, .int .i64 x80102005_2, .int .i64 x80102006_2]) ?_ 2 _ rfl; (with_reducible repeat (first | refine blk_drewN ?_ _ | refine blk_drew ?_ | refine blk_alloc ?_ _)); refine blk_put (cs := #[.int .i64 0, .int .i64 x80102001_2, .int .i64 x80102002_2, .int .i64 x80102003_2, .int .i64 x80102004_2, .int .i64 x80102005_2, .int .i64 x80102006_2]) ?_ 1 _ rfl; (with_reducible repeat (first | refine blk_drewN ?_ _ | refine blk_drew ?_ | refine blk_alloc ?_ _)); refine blk_put (cs := #[.int .i64 x80102000_2, .int .i64 x80102001_2, .int .i64 x80102002_2, .int .i64 x80102003_2, .int .i64 x80102004_2, .int .i64 x80102005_2, .int .i64 x80102006_2]) ?_ 0 _ rfl; (with_reducible repeat (first | refine blk_drewN ?_ _ | refine blk_drew ?_ | refine blk_alloc ?_ _)); exact BK80101.out) Try.underlying23 rfl (by kernel_rfl)) rfl ?_
                                  exact ⟨by first | rfl | (simp [errW_none, errW_some] <;> rfl) | (simp [*, errW_none, errW_some] <;> rfl), by repeat (first | (with_reducible first | exact HB.out | apply below_alloc | apply pw_below_drewN | apply below_drew1 | refine below_set ?_ GE80101.out | refine below_set ?_ GE80102.out | refine below_set ?_ GE80103.out) | exact HB.out)⟩
                                · rw [if_neg c50] at H
                                  have c50b0 : (x7_31 == (a0.size : Int)) = false := beq_eq_false_iff_ne.mpr c50
                                  have c50b1 : (x7_31 != (a0.size : Int)) = true := bne_iff_ne.mpr c50
                                  have HC56 := Aside0.mk H
                                  clear H
                                  go_upto_region 26 with (fail)
                                  go_cut [104] (fun v104 wc => ∃ (kq : Nat) (x104_55 : Bool), v104 = .bool x104_55 ∧ Aside0 (larderref03_ParseSpan.j6 kq a0 x7_31 x8_2 x9_2 x11_31 x104_55 0 0 0 0 0 0 0 x80104000_2 x80104001_2 x80104002_2 x80104003_2 x80104004_2 x80104005_2 x80104006_2 = some (r1, r2, r3, r4, r5, r6, r7, r8, r9)) ∧ Aside0 (kq ≤ kj39) ∧ Aside0 (wc.heap[gb80101]? = some (.cells #[.int .i64 x80102000_2, .int .i64 x80102001_2, .int .i64 x80102002_2, .int .i64 x80102003_2, .int .i64 x80102004_2, .int .i64 x80102005_2, .int .i64 x80102006_2] 23 (0, 0))) ∧ Aside0 (wc.heap[gb80102]? = some (.cells #[.int .i64 0, .int .i64 0, .int .i64 0, .int .i64 0, .int .i64 0, .int .i64 0, .int .i64 0] 23 (0, 0))) ∧ Aside0 (wc.heap[gb80103]? = some (.cells #[.int .i64 x80104000_2, .int .i64 x80104001_2, .int .i64 x80104002_2, .int .i64 x80104003_2, .int .i64 x80104004_2, .int .i64 x80104005_2, .int .i64 x80104006_2] 23 (0, 0))) ∧ Aside0 (Below w.heap.size w wc))
                                  case first =>
                                    have H := HC56.out
                                    clear HC56
                                    by_cases c57 : 0 ≤ x7_31
                                    · rw [if_pos c57] at H
                                      have c57b0 : decide (0 ≤ x7_31) = true := decide_eq_true c57
                                      clear c57
                                      (first | rw [c57b0] | (simp only [i64_w, i32_w]; rw [c57b0]) | skip)
                                      by_cases c58 : x7_31 < (a0.size : Int)
                                      · rw [if_pos c58] at H
                                        have c58b0 : decide (x7_31 < (a0.size : Int)) = true := decide_eq_true c58
                                        clear c58
                                        by_cases c60 : (bt a0 x7_31) = 87
                                        · rw [if_pos c60] at H
                                          have c60b0 : ((bt a0 x7_31) == 87) = true := beq_iff_eq.mpr c60
                                          have c60b1 : ((bt a0 x7_31) != 87) = false := bne_eq_false_iff_eq.mpr c60
                                          clear c60
                                          by_cases c61 : x8_2 = 0
                                          · rw [if_pos c61] at H
                                            have c61b0 : (x8_2 == 0) = true := beq_iff_eq.mpr c61
                                            have c61b1 : (x8_2 != 0) = false := bne_eq_false_iff_eq.mpr c61
                                            clear c61
                                            have H' := Aside0.mk H
                                            clear H
                                            have p59 : 0 ≤ (x7_31 : Int) := of_decide_eq_true (by first | (with_reducible assumption) | assumption)
                                            have q59 : x7_31 < (a0.size : Int) := of_decide_eq_true (by first | (with_reducible assumption) | assumption)
                                            have hx59 := bt_at a0 x7_31
                                            replace p59 := eq_true p59
                                            replace q59 := eq_true q59
                                            go_wp2
                                            go_meet
                                            case rel => exact ⟨_, (!x9_2), (by first | rfl | (simp; done) | (simp [*]; done)), H', ⟨by have := HJ7.out; have := HK2.out; have := HJ26.out; have := HJ31.out; have := HJ39.out; first | omega | exact Nat.le_refl _⟩, ⟨by (with_reducible repeat (first | refine blk_drewN ?_ _ | refine blk_drew ?_ | refine blk_alloc ?_ _)); exact BK80101.out⟩, ⟨by (with_reducible repeat (first | refine blk_drewN ?_ _ | refine blk_drew ?_ | refine blk_alloc ?_ _)); exact BK80102.out⟩, ⟨by (with_reducible repeat (first | refine blk_drewN ?_ _ | refine blk_drew ?_ | refine blk_alloc ?_ _)); exact BK80103.out⟩, ⟨by repeat (first | (with_reducible first | exact HB.out | apply below_alloc | apply pw_below_drewN | apply below_drew1 | refine below_set ?_ GE80101.out | refine below_set ?_ GE80102.out | refine below_set ?_ GE80103.out) | exact HB.out)⟩⟩
                                          · rw [if_neg c61] at H
                                            have c61b0 : (x8_2 == 0) = false := beq_eq_false_iff_ne.mpr c61
                                            have c61b1 : (x8_2 != 0) = true := bne_iff_ne.mpr c61
                                            have H' := Aside0.mk H
                                            clear H
                                            have p59 : 0 ≤ (x7_31 : Int) := of_decide_eq_true (by first | (with_reducible assumption) | assumption)
                                            have q59 : x7_31 < (a0.size : Int) := of_decide_eq_true (by first | (with_reducible assumption) | assumption)
                                            have hx59 := bt_at a0 x7_31
                                            replace p59 := eq_true p59
                                            replace q59 := eq_true q59
                                            go_wp2
                                            go_meet
                                            case rel => exact ⟨_, (false), (by first | rfl | (simp; done) | (simp [*]; done)), H', ⟨by have := HJ7.out; have := HK2.out; have := HJ26.out; have := HJ31.out; have := HJ39.out; first | omega | exact Nat.le_refl _⟩, ⟨by (with_reducible repeat (first | refine blk_drewN ?_ _ | refine blk_drew ?_ | refine blk_alloc ?_ _)); exact BK80101.out⟩, ⟨by (with_reducible repeat (first | refine blk_drewN ?_ _ | refine blk_drew ?_ | refine blk_alloc ?_ _)); exact BK80102.out⟩, ⟨by (with_reducible repeat (first | refine blk_drewN ?_ _ | refine blk_drew ?_ | refine blk_alloc ?_ _)); exact BK80103.out⟩, ⟨by repeat (first | (with_reducible first | exact HB.out | apply below_alloc | apply pw_below_drewN | apply below_drew1 | refine below_set ?_ GE80101.out | refine below_set ?_ GE80102.out | refine below_set ?_ GE80103.out) | exact HB.out)⟩⟩
                                        · rw [if_neg c60] at H
                                          have c60b0 : ((bt a0 x7_31) == 87) = false := beq_eq_false_iff_ne.mpr c60
                                          have c60b1 : ((bt a0 x7_31) != 87) = true := bne_iff_ne.mpr c60
                                          have H' := Aside0.mk H
                                          clear H
                                          have p59 : 0 ≤ (x7_31 : Int) := of_decide_eq_true (by first | (with_reducible assumption) | assumption)
                                          have q59 : x7_31 < (a0.size : Int) := of_decide_eq_true (by first | (with_reducible assumption) | assumption)
                                          have hx59 := bt_at a0 x7_31
                                          replace p59 := eq_true p59
                                          replace q59 := eq_true q59
                                          go_wp2
                                          go_meet
                                          case rel => exact ⟨_, (false), (by first | rfl | (simp; done) | (simp [*]; done)), H', ⟨by have := HJ7.out; have := HK2.out; have := HJ26.out; have := HJ31.out; have := HJ39.out; first | omega | exact Nat.le_refl _⟩, ⟨by (with_reducible repeat (first | refine blk_drewN ?_ _ | refine blk_drew ?_ | refine blk_alloc ?_ _)); exact BK80101.out⟩, ⟨by (with_reducible repeat (first | refine blk_drewN ?_ _ | refine blk_drew ?_ | refine blk_alloc ?_ _)); exact BK80102.out⟩, ⟨by (with_reducible repeat (first | refine blk_drewN ?_ _ | refine blk_drew ?_ | refine blk_alloc ?_ _)); exact BK80103.out⟩, ⟨by repeat (first | (with_reducible first | exact HB.out | apply below_alloc | apply pw_below_drewN | apply below_drew1 | refine below_set ?_ GE80101.out | refine below_set ?_ GE80102.out | refine below_set ?_ GE80103.out) | exact HB.out)⟩⟩
                                      · rw [if_neg c58] at H
                                        exact absurd H (by simp)
                                    · rw [if_neg c57] at H
                                      exact absurd H (by simp)
                                  case rest =>
                                    clear HC56
                                    try clear c1
                                    try clear p1
                                    try clear q1
                                    try clear hx1
                                    try clear qi1
                                    try clear c2
                                    try clear c2b0
                                    try clear c2b1
                                    try clear p2
                                    try clear q2
                                    try clear hx2
                                    try clear c3
                                    try clear p3
                                    try clear q3
                                    try clear hx3
                                    try clear c4
                                    try clear c5
                                    try clear p5
                                    try clear q5
                                    try clear hx5
                                    try clear c6
                                    try clear p6
                                    try clear c8
                                    try clear c11
                                    try clear c13
                                    try clear c13b0
                                    try clear c13b1
                                    try clear c14
                                    try clear c14b0
                                    try clear c14b1
                                    try clear p15
                                    try clear q15
                                    try clear hx15
                                    try clear qi15
                                    try clear c16
                                    try clear c17
                                    try clear c20
                                    try clear c23
                                    try clear c24
                                    try clear c26
                                    try clear c26b0
                                    try clear c28
                                    try clear c28b0
                                    try clear p29
                                    try clear q29
                                    try clear hx29
                                    try clear c30
                                    try clear c30b0
                                    try clear c30b1
                                    try clear c31
                                    try clear c33
                                    try clear c33b0
                                    try clear c34
                                    try clear c34b0
                                    try clear p35
                                    try clear q35
                                    try clear hx35
                                    try clear c37
                                    try clear c38
                                    try clear c38b0
                                    try clear p39
                                    try clear q39
                                    try clear hx39
                                    try clear c41
                                    try clear c41b0
                                    try clear c41b1
                                    try clear c42
                                    try clear c42b0
                                    try clear c42b1
                                    try clear c43
                                    try clear c43b0
                                    try clear c43b1
                                    try clear c44
                                    try clear c45
                                    try clear c46
                                    try clear c48
                                    try clear c50
                                    try clear c50b0
                                    try clear c50b1
                                    try clear c51
                                    try clear c52
                                    try clear c54
                                    try clear c57
                                    try clear c57b0
                                    try clear c58
                                    try clear c58b0
                                    try clear p59
                                    try clear q59
                                    try clear hx59
                                    try clear c60
                                    try clear c60b0
                                    try clear c60b1
                                    try clear c61
                                    try clear c61b0
                                    try clear c61b1
                                    try clear hcz12_0
                                    try clear hcz12_1
                                    try clear hcz12_2
                                    try clear hcz12_3
                                    try clear hcz12_4
                                    try clear hcz12_5
                                    try clear hcz12_6
                                    try clear hcz18_0
                                    try clear hcz18_1
                                    try clear hcz18_2
                                    try clear hcz18_3
                                    try clear hcz18_4
                                    try clear hcz18_5
                                    try clear hcz18_6
                                    try clear hcz19_0
                                    try clear hcz19_1
                                    try clear hcz19_2
                                    try clear hcz19_3
                                    try clear hcz19_4
                                    try clear hcz19_5
                                    try clear hcz19_6
                                    try clear hcz21_0
                                    try clear hcz21_1
                                    try clear hcz21_2
                                    try clear hcz21_3
                                    try clear hcz21_4
                                    try clear hcz21_5
                                    try clear hcz21_6
                                    try clear hcz25_0
                                    try clear hcz25_1
                                    try clear hcz25_2
                                    try clear hcz25_3
                                    try clear hcz25_4
                                    try clear hcz25_5
                                    try clear hcz25_6
                                    try clear hcz47_0
                                    try clear hcz47_1
                                    try clear hcz47_2
                                    try clear hcz47_3
                                    try clear hcz47_4
                                    try clear hcz47_5
                                    try clear hcz47_6
                                    try clear hcz49_0
                                    try clear hcz49_1
                                    try clear hcz49_2
                                    try clear hcz49_3
                                    try clear hcz49_4
                                    try clear hcz49_5
                                    try clear hcz49_6
                                    try clear hcz53_0
                                    try clear hcz53_1
                                    try clear hcz53_2
                                    try clear hcz53_3
                                    try clear hcz53_4
                                    try clear hcz53_5
                                    try clear hcz53_6
                                    try clear hcz55_0
                                    try clear hcz55_1
                                    try clear hcz55_2
                                    try clear hcz55_3
                                    try clear hcz55_4
                                    try clear hcz55_5
                                    try clear hcz55_6
                                    try clear hcz6_0
                                    try clear hcz6_1
                                    try clear hcz6_2
                                    try clear hcz6_3
                                    try clear hcz6_4
                                    try clear hcz6_5
                                    try clear hcz6_6
                                    try clear hcz7_0
                                    try clear hcz7_1
                                    try clear hcz7_2
                                    try clear hcz7_3
                                    try clear hcz7_4
                                    try clear hcz7_5
                                    try clear hcz7_6
                                    try clear hfz12_0
                                    try clear hfz12_1
                                    try clear hfz12_2
                                    try clear hfz12_3
                                    try clear hfz12_4
                                    try clear hfz12_5
                                    try clear hfz12_6
                                    try clear hfz18_0
                                    try clear hfz18_1
                                    try clear hfz18_2
                                    try clear hfz18_3
                                    try clear hfz18_4
                                    try clear hfz18_5
                                    try clear hfz18_6
                                    try clear hfz19_0
                                    try clear hfz19_1
                                    try clear hfz19_2
                                    try clear hfz19_3
                                    try clear hfz19_4
                                    try clear hfz19_5
                                    try clear hfz19_6
                                    try clear hfz21_0
                                    try clear hfz21_1
                                    try clear hfz21_2
                                    try clear hfz21_3
                                    try clear hfz21_4
                                    try clear hfz21_5
                                    try clear hfz21_6
                                    try clear hfz25_0
                                    try clear hfz25_1
                                    try clear hfz25_2
                                    try clear hfz25_3
                                    try clear hfz25_4
                                    try clear hfz25_5
                                    try clear hfz25_6
                                    try clear hfz47_0
                                    try clear hfz47_1
                                    try clear hfz47_2
                                    try clear hfz47_3
                                    try clear hfz47_4
                                    try clear hfz47_5
                                    try clear hfz47_6
                                    try clear hfz49_0
                                    try clear hfz49_1
                                    try clear hfz49_2
                                    try clear hfz49_3
                                    try clear hfz49_4
                                    try clear hfz49_5
                                    try clear hfz49_6
                                    try clear hfz53_0
                                    try clear hfz53_1
                                    try clear hfz53_2
                                    try clear hfz53_3
                                    try clear hfz53_4
                                    try clear hfz53_5
                                    try clear hfz53_6
                                    try clear hfz55_0
                                    try clear hfz55_1
                                    try clear hfz55_2
                                    try clear hfz55_3
                                    try clear hfz55_4
                                    try clear hfz55_5
                                    try clear hfz55_6
                                    try clear hfz6_0
                                    try clear hfz6_1
                                    try clear hfz6_2
                                    try clear hfz6_3
                                    try clear hfz6_4
                                    try clear hfz6_5
                                    try clear hfz6_6
                                    try clear hfz7_0
                                    try clear hfz7_1
                                    try clear hfz7_2
                                    try clear hfz7_3
                                    try clear hfz7_4
                                    try clear hfz7_5
                                    try clear hfz7_6
                                    try clear p1
                                    try clear p15
                                    try clear p2
                                    try clear p29
                                    try clear p3
                                    try clear p35
                                    try clear p39
                                    try clear p59
                                    try clear p6
                                    try clear q1
                                    try clear q15
                                    try clear q2
                                    try clear q29
                                    try clear q3
                                    try clear q35
                                    try clear q39
                                    try clear q59
                                    obtain ⟨kq, x104_55, rfl, HA, HJ55, BK80101, BK80102, BK80103, HB⟩ := hcut
                                    cases kq with
                                    | zero => exact absurd HA.out (by simp [larderref03_ParseSpan.j6])
                                    | succ kj55 =>
                                      have H := HA.out
                                      clear HA
                                      simp only [larderref03_ParseSpan.j6] at H
                                      by_cases c62 : x104_55 = true
                                      · subst c62
                                        have H1 : (if (wrap64 (x7_31 + 1)) < (a0.size : Int) then (some (0, 0, 0, 0, 0, 0, 0, 34, wrap64 (x7_31 + 1))) else (some (x80104000_2, x80104001_2, x11_31, x80104003_2, x80104004_2, x80104005_2, x80104006_2, 0, 0))) = some (r1, r2, r3, r4, r5, r6, r7, r8, r9) := by rw [if_pos rfl] at H; exact H
                                        clear H
                                        have H := H1
                                        clear H1
                                        by_cases c63 : (wrap64 (x7_31 + 1)) < (a0.size : Int)
                                        · rw [if_pos c63] at H
                                          have c63b0 : decide ((wrap64 (x7_31 + 1)) < (a0.size : Int)) = true := decide_eq_true c63
                                          clear c63
                                          simp only [Option.some.injEq, Prod.mk.injEq] at H
                                          obtain ⟨rfl, rfl, rfl, rfl, rfl, rfl, rfl, rfl, rfl⟩ := H
                                          have hnb64 := NB80102_80101.out
                                          have hnc64 := NB80101_80102.out
                                          have hnb65 := NB80102_80103.out
                                          have hnc65 := NB80103_80102.out
                                          have hcz66_0 : wc.cell? ⟨gb80102, 0, none⟩ = some (.int .i64 0) := (blk_cell BK80102.out 0).trans rfl
                                          have hcz66_1 : wc.cell? ⟨gb80102, 1, none⟩ = some (.int .i64 0) := (blk_cell BK80102.out 1).trans rfl
                                          have hcz66_2 : wc.cell? ⟨gb80102, 2, none⟩ = some (.int .i64 0) := (blk_cell BK80102.out 2).trans rfl
                                          have hcz66_3 : wc.cell? ⟨gb80102, 3, none⟩ = some (.int .i64 0) := (blk_cell BK80102.out 3).trans rfl
                                          have hcz66_4 : wc.cell? ⟨gb80102, 4, none⟩ = some (.int .i64 0) := (blk_cell BK80102.out 4).trans rfl
                                          have hcz66_5 : wc.cell? ⟨gb80102, 5, none⟩ = some (.int .i64 0) := (blk_cell BK80102.out 5).trans rfl
                                          have hcz66_6 : wc.cell? ⟨gb80102, 6, none⟩ = some (.int .i64 0) := (blk_cell BK80102.out 6).trans rfl
                                          have hfz66_0 := blk_frozen BK80102.out 0
                                          have hfz66_1 := blk_frozen BK80102.out 1
                                          have hfz66_2 := blk_frozen BK80102.out 2
                                          have hfz66_3 := blk_frozen BK80102.out 3
                                          have hfz66_4 := blk_frozen BK80102.out 4
                                          have hfz66_5 := blk_frozen BK80102.out 5
                                          have hfz66_6 := blk_frozen BK80102.out 6
                                          have hnb67 := NB80101_80103.out
                                          have hnc67 := NB80103_80101.out
                                          have hcz68_0 : wc.cell? ⟨gb80101, 0, none⟩ = some (.int .i64 x80102000_2) := (blk_cell BK80101.out 0).trans rfl
                                          have hcz68_1 : wc.cell? ⟨gb80101, 1, none⟩ = some (.int .i64 x80102001_2) := (blk_cell BK80101.out 1).trans rfl
                                          have hcz68_2 : wc.cell? ⟨gb80101, 2, none⟩ = some (.int .i64 x80102002_2) := (blk_cell BK80101.out 2).trans rfl
                                          have hcz68_3 : wc.cell? ⟨gb80101, 3, none⟩ = some (.int .i64 x80102003_2) := (blk_cell BK80101.out 3).trans rfl
                                          have hcz68_4 : wc.cell? ⟨gb80101, 4, none⟩ = some (.int .i64 x80102004_2) := (blk_cell BK80101.out 4).trans rfl
                                          have hcz68_5 : wc.cell? ⟨gb80101, 5, none⟩ = some (.int .i64 x80102005_2) := (blk_cell BK80101.out 5).trans rfl
                                          have hcz68_6 : wc.cell? ⟨gb80101, 6, none⟩ = some (.int .i64 x80102006_2) := (blk_cell BK80101.out 6).trans rfl
                                          have hfz68_0 := blk_frozen BK80101.out 0
                                          have hfz68_1 := blk_frozen BK80101.out 1
                                          have hfz68_2 := blk_frozen BK80101.out 2
                                          have hfz68_3 := blk_frozen BK80101.out 3
                                          have hfz68_4 := blk_frozen BK80101.out 4
                                          have hfz68_5 := blk_frozen BK80101.out 5
                                          have hfz68_6 := blk_frozen BK80101.out 6
                                          go_wp2
                                          refine bodyPost_ret (results_ctt rfl _ _ gb80101 23 #[.int .i64 0, .int .i64 0, .int .i64 0, .int .i64 0, .int .i64 0, .int .i64 0, .int .i64 0] (0, 0) _ rfl (by (with_reducible repeat (first | refine blk_drewN ?_ _ | refine blk_drew ?_ | refine blk_alloc ?_ _)); refine blk_put (cs := #[.int .i64 0, .int .i64 0, .int .i64 0, .int .i64 0, .int .i64 0, .int .i64 0, .int .i64 x80102006_2]) ?_ 6 _ rfl; (with_reducible repeat (first | refine blk_drewN ?_ _ | refine blk_drew ?_ | refine blk_alloc ?_ _)); refine blk_put (cs := #[.int .i64 0, .int .i64 0, .int .i64 0, .int .i64 0, .int .i64 0, .int .i64 x80102005_2, .int .i64 x80102006_2]) ?_ 5 _ rfl; (with_reducible repeat (first | refine blk_drewN ?_ _ | refine blk_drew ?_ | refine blk_alloc ?_ _)); refine blk_put (cs := #[.int .i64 0, .int .i64 0, .int .i64 0, .int .i64 0, .int .i64 x80102004_2, .int .i64 x80102005_2, .int .i64 x80102006_2]) ?_ 4 _ rfl; (with_reducible repeat (first | refine blk_drewN ?_ _ | refine blk_drew ?_ | refine blk_alloc ?_ _)); refine blk_put (cs := #[.int .i64 0, .int .i64 0, .int .i64 0, .int .i64 x80102003_2, .int .i64 x80102004_2, .int .i64 x80102005_2, .int .i64 x80102006_2]) ?_ 3 _ rfl; (with_reducible repeat (first | refine blk_drewN ?_ _ | refine blk_drew ?_ | refine blk_alloc ?_ _)); refine blk_put (cs := #[.int .i64 0, .int .i64 0, .int .i64 x80102002_2, .int .i64 x80102003_2, .int .i64 x80102004_2, .int .i64 x80102005_2, .int .i64 x80102006_2]) ?_ 2 _ rfl; (with_reducible repeat (first | refine blk_drewN ?_ _ | refine blk_drew ?_ | refine blk_alloc ?_ _)); refine blk_put (cs := #[.int .i64 0, .int .i64 x80102001_2, .int .i64 x80102002_2, .int .i64 x80102003_2, .int .i64 x80102004_2, .int .i64 x80102005_2, .int .i64 x80102006_2]) ?_ 1 _ rfl; (with_reducible repeat (first | refine blk_drewN ?_ _ | refine blk_drew ?_ | refine blk_alloc ?_ _)); refine blk_put (cs := #[.int .i64 x80102000_2, .int .i64 x80102001_2, .int .i64 x80102002_2, .int .i64 x80102003_2, .int .i64 x80102004_2, .int .i64 x80102005_2, .int .i64 x80102006_2]) ?_ 0 _ rfl; (with_reducible repeat (first | refine blk_drewN ?_ _ | refine blk_drew ?_ | refine blk_alloc ?_ _)); exact BK80101.out) Try.underlying23 rfl (by kernel_rfl)) rfl ?_
                                          exact ⟨by first | rfl | (simp [errW_none, errW_some] <;> rfl) | (simp [*, errW_none, errW_some] <;> rfl), by repeat (first | (with_reducible first | exact HB.out | apply below_alloc | apply pw_below_drewN | apply below_drew1 | refine below_set ?_ GE80101.out | refine below_set ?_ GE80102.out | refine below_set ?_ GE80103.out) | exact HB.out)⟩
                                        · rw [if_neg c63] at H
                                          have c63b0 : decide ((wrap64 (x7_31 + 1)) < (a0.size : Int)) = false := decide_eq_false c63
                                          clear c63
                                          simp only [Option.some.injEq, Prod.mk.injEq] at H
                                          obtain ⟨rfl, rfl, rfl, rfl, rfl, rfl, rfl, rfl, rfl⟩ := H
                                          have hnb69 := NB80103_80101.out
                                          have hnc69 := NB80101_80103.out
                                          have hnb70 := NB80103_80102.out
                                          have hnc70 := NB80102_80103.out
                                          have hcz71_0 : wc.cell? ⟨gb80103, 0, none⟩ = some (.int .i64 x80104000_2) := (blk_cell BK80103.out 0).trans rfl
                                          have hcz71_1 : wc.cell? ⟨gb80103, 1, none⟩ = some (.int .i64 x80104001_2) := (blk_cell BK80103.out 1).trans rfl
                                          have hcz71_2 : wc.cell? ⟨gb80103, 2, none⟩ = some (.int .i64 x80104002_2) := (blk_cell BK80103.out 2).trans rfl
                                          have hcz71_3 : wc.cell? ⟨gb80103, 3, none⟩ = some (.int .i64 x80104003_2) := (blk_cell BK80103.out 3).trans rfl
                                          have hcz71_4 : wc.cell? ⟨gb80103, 4, none⟩ = some (.int .i64 x80104004_2) := (blk_cell BK80103.out 4).trans rfl
                                          have hcz71_5 : wc.cell? ⟨gb80103, 5, none⟩ = some (.int .i64 x80104005_2) := (blk_cell BK80103.out 5).trans rfl
                                          have hcz71_6 : wc.cell? ⟨gb80103, 6, none⟩ = some (.int .i64 x80104006_2) := (blk_cell BK80103.out 6).trans rfl
                                          have hfz71_0 := blk_frozen BK80103.out 0
                                          have hfz71_1 := blk_frozen BK80103.out 1
                                          have hfz71_2 := blk_frozen BK80103.out 2
                                          have hfz71_3 := blk_frozen BK80103.out 3
                                          have hfz71_4 := blk_frozen BK80103.out 4
                                          have hfz71_5 := blk_frozen BK80103.out 5
                                          have hfz71_6 := blk_frozen BK80103.out 6
                                          have hnb72 := NB80101_80102.out
                                          have hnc72 := NB80102_80101.out
                                          have hcz73_0 : wc.cell? ⟨gb80101, 0, none⟩ = some (.int .i64 x80102000_2) := (blk_cell BK80101.out 0).trans rfl
                                          have hcz73_1 : wc.cell? ⟨gb80101, 1, none⟩ = some (.int .i64 x80102001_2) := (blk_cell BK80101.out 1).trans rfl
                                          have hcz73_2 : wc.cell? ⟨gb80101, 2, none⟩ = some (.int .i64 x80102002_2) := (blk_cell BK80101.out 2).trans rfl
                                          have hcz73_3 : wc.cell? ⟨gb80101, 3, none⟩ = some (.int .i64 x80102003_2) := (blk_cell BK80101.out 3).trans rfl
                                          have hcz73_4 : wc.cell? ⟨gb80101, 4, none⟩ = some (.int .i64 x80102004_2) := (blk_cell BK80101.out 4).trans rfl
                                          have hcz73_5 : wc.cell? ⟨gb80101, 5, none⟩ = some (.int .i64 x80102005_2) := (blk_cell BK80101.out 5).trans rfl
                                          have hcz73_6 : wc.cell? ⟨gb80101, 6, none⟩ = some (.int .i64 x80102006_2) := (blk_cell BK80101.out 6).trans rfl
                                          have hfz73_0 := blk_frozen BK80101.out 0
                                          have hfz73_1 := blk_frozen BK80101.out 1
                                          have hfz73_2 := blk_frozen BK80101.out 2
                                          have hfz73_3 := blk_frozen BK80101.out 3
                                          have hfz73_4 := blk_frozen BK80101.out 4
                                          have hfz73_5 := blk_frozen BK80101.out 5
                                          have hfz73_6 := blk_frozen BK80101.out 6
                                          go_wp2
                                          refine bodyPost_ret (results_ctt rfl _ _ gb80101 23 #[.int .i64 x80104000_2, .int .i64 x80104001_2, .int .i64 x11_31, .int .i64 x80104003_2, .int .i64 x80104004_2, .int .i64 x80104005_2, .int .i64 x80104006_2] (0, 0) _ rfl (by (with_reducible repeat (first | refine blk_drewN ?_ _ | refine blk_drew ?_ | refine blk_alloc ?_ _)); refine blk_put (cs := #[.int .i64 x80104000_2, .int .i64 x80104001_2, .int .i64 x11_31, .int .i64 x80104003_2, .int .i64 x80104004_2, .int .i64 x80104005_2, .int .i64 x80102006_2]) ?_ 6 _ rfl; (with_reducible repeat (first | refine blk_drewN ?_ _ | refine blk_drew ?_ | refine blk_alloc ?_ _)); refine blk_put (cs := #[.int .i64 x80104000_2, .int .i64 x80104001_2, .int .i64 x11_31, .int .i64 x80104003_2, .int .i64 x80104004_2, .int .i64 x80102005_2, .int .i64 x80102006_2]) ?_ 5 _ rfl; (with_reducible repeat (first | refine blk_drewN ?_ _ | refine blk_drew ?_ | refine blk_alloc ?_ _)); refine blk_put (cs := #[.int .i64 x80104000_2, .int .i64 x80104001_2, .int .i64 x11_31, .int .i64 x80104003_2, .int .i64 x80102004_2, .int .i64 x80102005_2, .int .i64 x80102006_2]) ?_ 4 _ rfl; (with_reducible repeat (first | refine blk_drewN ?_ _ | refine blk_drew ?_ | refine blk_alloc ?_ _)); refine blk_put (cs := #[.int .i64 x80104000_2, .int .i64 x80104001_2, .int .i64 x11_31, .int .i64 x80102003_2, .int .i64 x80102004_2, .int .i64 x80102005_2, .int .i64 x80102006_2]) ?_ 3 _ rfl; (with_reducible repeat (first | refine blk_drewN ?_ _ | refine blk_drew ?_ | refine blk_alloc ?_ _)); refine blk_put (cs := #[.int .i64 x80104000_2, .int .i64 x80104001_2, .int .i64 x80102002_2, .int .i64 x80102003_2, .int .i64 x80102004_2, .int .i64 x80102005_2, .int .i64 x80102006_2]) ?_ 2 _ rfl; (with_reducible repeat (first | refine blk_drewN ?_ _ | refine blk_drew ?_ | refine blk_alloc ?_ _)); refine blk_put (cs := #[.int .i64 x80104000_2, .int .i64 x80102001_2, .int .i64 x80102002_2, .int .i64 x80102003_2, .int .i64 x80102004_2, .int .i64 x80102005_2, .int .i64 x80102006_2]) ?_ 1 _ rfl; (with_reducible repeat (first | refine blk_drewN ?_ _ | refine blk_drew ?_ | refine blk_alloc ?_ _)); refine blk_put (cs := #[.int .i64 x80102000_2, .int .i64 x80102001_2, .int .i64 x80102002_2, .int .i64 x80102003_2, .int .i64 x80102004_2, .int .i64 x80102005_2, .int .i64 x80102006_2]) ?_ 0 _ rfl; (with_reducible repeat (first | refine blk_drewN ?_ _ | refine blk_drew ?_ | refine blk_alloc ?_ _)); refine blk_far ?_ NB80101_80103.out _; (with_reducible repeat (first | refine blk_drewN ?_ _ | refine blk_drew ?_ | refine blk_alloc ?_ _)); exact BK80101.out) Try.underlying23 rfl (by kernel_rfl)) rfl ?_
                                          exact ⟨by first | rfl | (simp [errW_none, errW_some] <;> rfl) | (simp [*, errW_none, errW_some] <;> rfl), by repeat (first | (with_reducible first | exact HB.out | apply below_alloc | apply pw_below_drewN | apply below_drew1 | refine below_set ?_ GE80101.out | refine below_set ?_ GE80102.out | refine below_set ?_ GE80103.out) | exact HB.out)⟩
                                      · replace c62 := Bool.eq_false_iff.mpr c62
                                        subst c62
                                        have H1 : (if 0 ≤ x7_31 then (if x7_31 < (a0.size : Int) then ((larderref03_rank.f (bt a0 x7_31) x9_2).bind fun t80105 => (if t80105 ≤ x8_2 then (some (0, 0, 0, 0, 0, 0, 0, 34, x7_31)) else ((larderref03_put.f x80104000_2 x80104001_2 x80104002_2 x80104003_2 x80104004_2 x80104005_2 x80104006_2 t80105 x11_31).bind fun bt80106 => (larderref03_ParseSpan.l0 kj55 a0 (wrap64 (x7_31 + 1)) t80105 x9_2 true 0 0 0 0 0 0 0 bt80106.1 bt80106.2.1 bt80106.2.2.1 bt80106.2.2.2.1 bt80106.2.2.2.2.1 bt80106.2.2.2.2.2.1 bt80106.2.2.2.2.2.2)))) else (none)) else (none)) = some (r1, r2, r3, r4, r5, r6, r7, r8, r9) := by rw [if_neg (show ¬ (false = true) by decide)] at H; exact H
                                        clear H
                                        have H := H1
                                        clear H1
                                        by_cases c74 : 0 ≤ x7_31
                                        · rw [if_pos c74] at H
                                          have c74b0 : decide (0 ≤ x7_31) = true := decide_eq_true c74
                                          clear c74
                                          by_cases c75 : x7_31 < (a0.size : Int)
                                          · rw [if_pos c75] at H
                                            have c75b0 : decide (x7_31 < (a0.size : Int)) = true := decide_eq_true c75
                                            clear c75
                                            replace H := Option.bind_eq_some_iff.mp H
                                            obtain ⟨t80105, A770, H⟩ := H
                                            replace H : (if t80105 ≤ x8_2 then (some (0, 0, 0, 0, 0, 0, 0, 34, x7_31)) else ((larderref03_put.f x80104000_2 x80104001_2 x80104002_2 x80104003_2 x80104004_2 x80104005_2 x80104006_2 t80105 x11_31).bind fun bt80106 => (larderref03_ParseSpan.l0 kj55 a0 (wrap64 (x7_31 + 1)) t80105 x9_2 true 0 0 0 0 0 0 0 bt80106.1 bt80106.2.1 bt80106.2.2.1 bt80106.2.2.2.1 bt80106.2.2.2.2.1 bt80106.2.2.2.2.2.1 bt80106.2.2.2.2.2.2))) = some (r1, r2, r3, r4, r5, r6, r7, r8, r9) := H
                                            have A77 := Aside0.mk A770
                                            clear A770
                                            by_cases c78 : t80105 ≤ x8_2
                                            · rw [if_pos c78] at H
                                              have c78b0 : decide (t80105 ≤ x8_2) = true := decide_eq_true c78
                                              clear c78
                                              simp only [Option.some.injEq, Prod.mk.injEq] at H
                                              obtain ⟨rfl, rfl, rfl, rfl, rfl, rfl, rfl, rfl, rfl⟩ := H
                                              have p76 : 0 ≤ (x7_31 : Int) := of_decide_eq_true (by first | (with_reducible assumption) | assumption)
                                              have q76 : x7_31 < (a0.size : Int) := of_decide_eq_true (by first | (with_reducible assumption) | assumption)
                                              have hx76 := bt_at a0 x7_31
                                              replace p76 := eq_true p76
                                              replace q76 := eq_true q76
                                              go_wp2_with (first | ((with_reducible refine gate_callee (f := 14) rfl ?_); refine goesL_ (some 120) rfl rfl Try.func14 (by kernel_rfl) rfl #[.int .u8 (bt a0 x7_31), .bool x9_2] rfl (by (try simp only [List.map_toArray, List.map_cons, List.map_nil]); first | done | rfl | (simp only [List.length_drop, List.length_take]; rfl)) ?_; (with_reducible refine (larderref03_rank.calls (bt a0 x7_31) x9_2 t80105 _ A77.out).mono ?_); rintro e w' ⟨rfl, ⟨nd, rfl⟩⟩; refine ⟨_, rfl, ?_⟩; (try (rw [drewN_self wc]; generalize hq_ : World.drewN wc _ = wc; have n0_ : Aside0 (wc.heap[gb80101]? = some (.cells #[.int .i64 x80102000_2, .int .i64 x80102001_2, .int .i64 x80102002_2, .int .i64 x80102003_2, .int .i64 x80102004_2, .int .i64 x80102005_2, .int .i64 x80102006_2] 23 (0, 0))) := ⟨by rw [← hq_]; exact (by (with_reducible repeat (first | refine blk_drewN ?_ _ | refine blk_drew ?_ | refine blk_alloc ?_ _)); exact BK80101.out)⟩; have n1_ : Aside0 (wc.heap[gb80102]? = some (.cells #[.int .i64 0, .int .i64 0, .int .i64 0, .int .i64 0, .int .i64 0, .int .i64 0, .int .i64 0] 23 (0, 0))) := ⟨by rw [← hq_]; exact (by (with_reducible repeat (first | refine blk_drewN ?_ _ | refine blk_drew ?_ | refine blk_alloc ?_ _)); exact BK80102.out)⟩; have n2_ : Aside0 (wc.heap[gb80103]? = some (.cells #[.int .i64 x80104000_2, .int .i64 x80104001_2, .int .i64 x80104002_2, .int .i64 x80104003_2, .int .i64 x80104004_2, .int .i64 x80104005_2, .int .i64 x80104006_2] 23 (0, 0))) := ⟨by rw [← hq_]; exact (by (with_reducible repeat (first | refine blk_drewN ?_ _ | refine blk_drew ?_ | refine blk_alloc ?_ _)); exact BK80103.out)⟩; have n3_ : Aside0 (Below w.heap.size w wc) := ⟨by rw [← hq_]; exact (by repeat (first | (with_reducible first | exact HB.out | apply below_alloc | apply pw_below_drewN | apply below_drew1 | refine below_set ?_ GE80101.out | refine below_set ?_ GE80102.out | refine below_set ?_ GE80103.out) | exact HB.out))⟩; clear BK80101 BK80102 BK80103 HB hq_; have BK80101 := n0_; have BK80102 := n1_; have BK80103 := n2_; have HB := n3_; clear n0_ n1_ n2_ n3_)); have hnb79 := NB80102_80101.out; have hnc79 := NB80101_80102.out; have hnb80 := NB80102_80103.out; have hnc80 := NB80103_80102.out; have hcz81_0 : wc.cell? ⟨gb80102, 0, none⟩ = some (.int .i64 0) := (blk_cell BK80102.out 0).trans rfl; have hcz81_1 : wc.cell? ⟨gb80102, 1, none⟩ = some (.int .i64 0) := (blk_cell BK80102.out 1).trans rfl; have hcz81_2 : wc.cell? ⟨gb80102, 2, none⟩ = some (.int .i64 0) := (blk_cell BK80102.out 2).trans rfl; have hcz81_3 : wc.cell? ⟨gb80102, 3, none⟩ = some (.int .i64 0) := (blk_cell BK80102.out 3).trans rfl; have hcz81_4 : wc.cell? ⟨gb80102, 4, none⟩ = some (.int .i64 0) := (blk_cell BK80102.out 4).trans rfl; have hcz81_5 : wc.cell? ⟨gb80102, 5, none⟩ = some (.int .i64 0) := (blk_cell BK80102.out 5).trans rfl; have hcz81_6 : wc.cell? ⟨gb80102, 6, none⟩ = some (.int .i64 0) := (blk_cell BK80102.out 6).trans rfl; have hfz81_0 := blk_frozen BK80102.out 0; have hfz81_1 := blk_frozen BK80102.out 1; have hfz81_2 := blk_frozen BK80102.out 2; have hfz81_3 := blk_frozen BK80102.out 3; have hfz81_4 := blk_frozen BK80102.out 4; have hfz81_5 := blk_frozen BK80102.out 5; have hfz81_6 := blk_frozen BK80102.out 6; have hnb82 := NB80101_80103.out; have hnc82 := NB80103_80101.out; have hcz83_0 : wc.cell? ⟨gb80101, 0, none⟩ = some (.int .i64 x80102000_2) := (blk_cell BK80101.out 0).trans rfl; have hcz83_1 : wc.cell? ⟨gb80101, 1, none⟩ = some (.int .i64 x80102001_2) := (blk_cell BK80101.out 1).trans rfl; have hcz83_2 : wc.cell? ⟨gb80101, 2, none⟩ = some (.int .i64 x80102002_2) := (blk_cell BK80101.out 2).trans rfl; have hcz83_3 : wc.cell? ⟨gb80101, 3, none⟩ = some (.int .i64 x80102003_2) := (blk_cell BK80101.out 3).trans rfl; have hcz83_4 : wc.cell? ⟨gb80101, 4, none⟩ = some (.int .i64 x80102004_2) := (blk_cell BK80101.out 4).trans rfl; have hcz83_5 : wc.cell? ⟨gb80101, 5, none⟩ = some (.int .i64 x80102005_2) := (blk_cell BK80101.out 5).trans rfl; have hcz83_6 : wc.cell? ⟨gb80101, 6, none⟩ = some (.int .i64 x80102006_2) := (blk_cell BK80101.out 6).trans rfl; have hfz83_0 := blk_frozen BK80101.out 0; have hfz83_1 := blk_frozen BK80101.out 1; have hfz83_2 := blk_frozen BK80101.out 2; have hfz83_3 := blk_frozen BK80101.out 3; have hfz83_4 := blk_frozen BK80101.out 4; have hfz83_5 := blk_frozen BK80101.out 5; have hfz83_6 := blk_frozen BK80101.out 6))
                                              refine bodyPost_ret (results_ctt rfl _ _ gb80101 23 #[.int .i64 0, .int .i64 0, .int .i64 0, .int .i64 0, .int .i64 0, .int .i64 0, .int .i64 0] (0, 0) _ rfl (by (with_reducible repeat (first | refine blk_drewN ?_ _ | refine blk_drew ?_ | refine blk_alloc ?_ _)); refine blk_put (cs := #[.int .i64 0, .int .i64 0, .int .i64 0, .int .i64 0, .int .i64 0, .int .i64 0, .int .i64 x80102006_2]) ?_ 6 _ rfl; (with_reducible repeat (first | refine blk_drewN ?_ _ | refine blk_drew ?_ | refine blk_alloc ?_ _)); refine blk_put (cs := #[.int .i64 0, .int .i64 0, .int .i64 0, .int .i64 0, .int .i64 0, .int .i64 x80102005_2, .int .i64 x80102006_2]) ?_ 5 _ rfl; (with_reducible repeat (first | refine blk_drewN ?_ _ | refine blk_drew ?_ | refine blk_alloc ?_ _)); refine blk_put (cs := #[.int .i64 0, .int .i64 0, .int .i64 0, .int .i64 0, .int .i64 x80102004_2, .int .i64 x80102005_2, .int .i64 x80102006_2]) ?_ 4 _ rfl; (with_reducible repeat (first | refine blk_drewN ?_ _ | refine blk_drew ?_ | refine blk_alloc ?_ _)); refine blk_put (cs := #[.int .i64 0, .int .i64 0, .int .i64 0, .int .i64 x80102003_2, .int .i64 x80102004_2, .int .i64 x80102005_2, .int .i64 x80102006_2]) ?_ 3 _ rfl; (with_reducible repeat (first | refine blk_drewN ?_ _ | refine blk_drew ?_ | refine blk_alloc ?_ _)); refine blk_put (cs := #[.int .i64 0, .int .i64 0, .int .i64 x80102002_2, .int .i64 x80102003_2, .int .i64 x80102004_2, .int .i64 x80102005_2, .int .i64 x80102006_2]) ?_ 2 _ rfl; (with_reducible repeat (first | refine blk_drewN ?_ _ | refine blk_drew ?_ | refine blk_alloc ?_ _)); refine blk_put (cs := #[.int .i64 0, .int .i64 x80102001_2, .int .i64 x80102002_2, .int .i64 x80102003_2, .int .i64 x80102004_2, .int .i64 x80102005_2, .int .i64 x80102006_2]) ?_ 1 _ rfl; (with_reducible repeat (first | refine blk_drewN ?_ _ | refine blk_drew ?_ | refine blk_alloc ?_ _)); refine blk_put (cs := #[.int .i64 x80102000_2, .int .i64 x80102001_2, .int .i64 x80102002_2, .int .i64 x80102003_2, .int .i64 x80102004_2, .int .i64 x80102005_2, .int .i64 x80102006_2]) ?_ 0 _ rfl; (with_reducible repeat (first | refine blk_drewN ?_ _ | refine blk_drew ?_ | refine blk_alloc ?_ _)); exact BK80101.out) Try.underlying23 rfl (by kernel_rfl)) rfl ?_
                                              exact ⟨by first | rfl | (simp [errW_none, errW_some] <;> rfl) | (simp [*, errW_none, errW_some] <;> rfl), by repeat (first | (with_reducible first | exact HB.out | apply below_alloc | apply pw_below_drewN | apply below_drew1 | refine below_set ?_ GE80101.out | refine below_set ?_ GE80102.out | refine below_set ?_ GE80103.out) | exact HB.out)⟩
                                            · rw [if_neg c78] at H
                                              have c78b0 : decide (t80105 ≤ x8_2) = false := decide_eq_false c78
                                              clear c78
                                              replace H := Option.bind_eq_some_iff.mp H
                                              obtain ⟨⟨t80106, t80107, t80108, t80109, t80110, t80111, t80112⟩, A840, H⟩ := H
                                              replace H : (larderref03_ParseSpan.l0 kj55 a0 (wrap64 (x7_31 + 1)) t80105 x9_2 true 0 0 0 0 0 0 0 t80106 t80107 t80108 t80109 t80110 t80111 t80112) = some (r1, r2, r3, r4, r5, r6, r7, r8, r9) := H
                                              have A84 := Aside0.mk A840
                                              clear A840
                                              have H' := Aside0.mk H
                                              clear H
                                              have p76 : 0 ≤ (x7_31 : Int) := of_decide_eq_true (by first | (with_reducible assumption) | assumption)
                                              have q76 : x7_31 < (a0.size : Int) := of_decide_eq_true (by first | (with_reducible assumption) | assumption)
                                              have hx76 := bt_at a0 x7_31
                                              replace p76 := eq_true p76
                                              replace q76 := eq_true q76
                                              go_wp2_with (first | ((with_reducible refine gate_callee (f := 14) rfl ?_); refine goesL_ (some 120) rfl rfl Try.func14 (by kernel_rfl) rfl #[.int .u8 (bt a0 x7_31), .bool x9_2] rfl (by (try simp only [List.map_toArray, List.map_cons, List.map_nil]); first | done | rfl | (simp only [List.length_drop, List.length_take]; rfl)) ?_; (with_reducible refine (larderref03_rank.calls (bt a0 x7_31) x9_2 t80105 _ A77.out).mono ?_); rintro e w' ⟨rfl, ⟨nd, rfl⟩⟩; refine ⟨_, rfl, ?_⟩; (try (rw [drewN_self wc]; generalize hq_ : World.drewN wc _ = wc; have n0_ : Aside0 (wc.heap[gb80101]? = some (.cells #[.int .i64 x80102000_2, .int .i64 x80102001_2, .int .i64 x80102002_2, .int .i64 x80102003_2, .int .i64 x80102004_2, .int .i64 x80102005_2, .int .i64 x80102006_2] 23 (0, 0))) := ⟨by rw [← hq_]; exact (by (with_reducible repeat (first | refine blk_drewN ?_ _ | refine blk_drew ?_ | refine blk_alloc ?_ _)); exact BK80101.out)⟩; have n1_ : Aside0 (wc.heap[gb80102]? = some (.cells #[.int .i64 0, .int .i64 0, .int .i64 0, .int .i64 0, .int .i64 0, .int .i64 0, .int .i64 0] 23 (0, 0))) := ⟨by rw [← hq_]; exact (by (with_reducible repeat (first | refine blk_drewN ?_ _ | refine blk_drew ?_ | refine blk_alloc ?_ _)); exact BK80102.out)⟩; have n2_ : Aside0 (wc.heap[gb80103]? = some (.cells #[.int .i64 x80104000_2, .int .i64 x80104001_2, .int .i64 x80104002_2, .int .i64 x80104003_2, .int .i64 x80104004_2, .int .i64 x80104005_2, .int .i64 x80104006_2] 23 (0, 0))) := ⟨by rw [← hq_]; exact (by (with_reducible repeat (first | refine blk_drewN ?_ _ | refine blk_drew ?_ | refine blk_alloc ?_ _)); exact BK80103.out)⟩; have n3_ : Aside0 (Below w.heap.size w wc) := ⟨by rw [← hq_]; exact (by repeat (first | (with_reducible first | exact HB.out | apply below_alloc | apply pw_below_drewN | apply below_drew1 | refine below_set ?_ GE80101.out | refine below_set ?_ GE80102.out | refine below_set ?_ GE80103.out) | exact HB.out))⟩; clear BK80101 BK80102 BK80103 HB hq_; have BK80101 := n0_; have BK80102 := n1_; have BK80103 := n2_; have HB := n3_; clear n0_ n1_ n2_ n3_)); have hnb85 := NB80103_80101.out; have hnc85 := NB80101_80103.out; have hnb86 := NB80103_80102.out; have hnc86 := NB80102_80103.out; have hcz87_0 : wc.cell? ⟨gb80103, 0, none⟩ = some (.int .i64 x80104000_2) := (blk_cell BK80103.out 0).trans rfl; have hcz87_1 : wc.cell? ⟨gb80103, 1, none⟩ = some (.int .i64 x80104001_2) := (blk_cell BK80103.out 1).trans rfl; have hcz87_2 : wc.cell? ⟨gb80103, 2, none⟩ = some (.int .i64 x80104002_2) := (blk_cell BK80103.out 2).trans rfl; have hcz87_3 : wc.cell? ⟨gb80103, 3, none⟩ = some (.int .i64 x80104003_2) := (blk_cell BK80103.out 3).trans rfl; have hcz87_4 : wc.cell? ⟨gb80103, 4, none⟩ = some (.int .i64 x80104004_2) := (blk_cell BK80103.out 4).trans rfl; have hcz87_5 : wc.cell? ⟨gb80103, 5, none⟩ = some (.int .i64 x80104005_2) := (blk_cell BK80103.out 5).trans rfl; have hcz87_6 : wc.cell? ⟨gb80103, 6, none⟩ = some (.int .i64 x80104006_2) := (blk_cell BK80103.out 6).trans rfl; have hfz87_0 := blk_frozen BK80103.out 0; have hfz87_1 := blk_frozen BK80103.out 1; have hfz87_2 := blk_frozen BK80103.out 2; have hfz87_3 := blk_frozen BK80103.out 3; have hfz87_4 := blk_frozen BK80103.out 4; have hfz87_5 := blk_frozen BK80103.out 5; have hfz87_6 := blk_frozen BK80103.out 6) | ((with_reducible refine gate_callee (f := 15) rfl ?_); refine goesL_ (some 129) rfl rfl Try.func15 (by kernel_rfl) rfl #[.agg #[.int .i64 x80104000_2, .int .i64 x80104001_2, .int .i64 x80104002_2, .int .i64 x80104003_2, .int .i64 x80104004_2, .int .i64 x80104005_2, .int .i64 x80104006_2], .int .i64 t80105, .int .i64 x11_31] rfl (by (try simp only [List.map_toArray, List.map_cons, List.map_nil]); first | done | rfl | (simp only [List.length_drop, List.length_take]; rfl)) ?_; (with_reducible refine (larderref03_put.calls x80104000_2 x80104001_2 x80104002_2 x80104003_2 x80104004_2 x80104005_2 x80104006_2 t80105 x11_31 t80106 t80107 t80108 t80109 t80110 t80111 t80112 _ A84.out).mono ?_); rintro e w88 ⟨rfl, hb⟩; refine ⟨_, rfl, ?_⟩; have n0_ := Aside0.mk (blk_below (g := gb80101) (o := .cells #[.int .i64 x80102000_2, .int .i64 x80102001_2, .int .i64 x80102002_2, .int .i64 x80102003_2, .int .i64 x80102004_2, .int .i64 x80102005_2, .int .i64 x80102006_2] 23 (0, 0)) (by (with_reducible repeat (first | refine blk_drewN ?_ _ | refine blk_drew ?_ | refine blk_alloc ?_ _)); exact BK80101.out) hb); have n1_ := Aside0.mk (blk_below (g := gb80102) (o := .cells #[.int .i64 0, .int .i64 0, .int .i64 0, .int .i64 0, .int .i64 0, .int .i64 0, .int .i64 0] 23 (0, 0)) (by (with_reducible repeat (first | refine blk_drewN ?_ _ | refine blk_drew ?_ | refine blk_alloc ?_ _)); exact BK80102.out) hb); have n2_ := Aside0.mk (blk_below (g := gb80103) (o := .cells #[.int .i64 x80104000_2, .int .i64 x80104001_2, .int .i64 x80104002_2, .int .i64 x80104003_2, .int .i64 x80104004_2, .int .i64 x80104005_2, .int .i64 x80104006_2] 23 (0, 0)) (by (with_reducible repeat (first | refine blk_drewN ?_ _ | refine blk_drew ?_ | refine blk_alloc ?_ _)); exact BK80103.out) hb); have n3_ := Aside0.mk (below_step (by repeat (first | (with_reducible first | exact HB.out | apply below_alloc | apply pw_below_drewN | apply below_drew1 | refine below_set ?_ GE80101.out | refine below_set ?_ GE80102.out | refine below_set ?_ GE80103.out) | exact HB.out)) hb); clear BK80101; clear BK80102; clear BK80103; clear HB; have BK80101 := n0_; have BK80102 := n1_; have BK80103 := n2_; have HB := n3_; clear n0_ n1_ n2_ n3_; (try clear hb); (try clear hb2); (try clear hk); (try clear hi); have hcz89_0 : w88.cell? ⟨gb80103, 0, none⟩ = some (.int .i64 x80104000_2) := (blk_cell BK80103.out 0).trans rfl; have hcz89_1 : w88.cell? ⟨gb80103, 1, none⟩ = some (.int .i64 x80104001_2) := (blk_cell BK80103.out 1).trans rfl; have hcz89_2 : w88.cell? ⟨gb80103, 2, none⟩ = some (.int .i64 x80104002_2) := (blk_cell BK80103.out 2).trans rfl; have hcz89_3 : w88.cell? ⟨gb80103, 3, none⟩ = some (.int .i64 x80104003_2) := (blk_cell BK80103.out 3).trans rfl; have hcz89_4 : w88.cell? ⟨gb80103, 4, none⟩ = some (.int .i64 x80104004_2) := (blk_cell BK80103.out 4).trans rfl; have hcz89_5 : w88.cell? ⟨gb80103, 5, none⟩ = some (.int .i64 x80104005_2) := (blk_cell BK80103.out 5).trans rfl; have hcz89_6 : w88.cell? ⟨gb80103, 6, none⟩ = some (.int .i64 x80104006_2) := (blk_cell BK80103.out 6).trans rfl; have hfz89_0 := blk_frozen BK80103.out 0; have hfz89_1 := blk_frozen BK80103.out 1; have hfz89_2 := blk_frozen BK80103.out 2; have hfz89_3 := blk_frozen BK80103.out 3; have hfz89_4 := blk_frozen BK80103.out 4; have hfz89_5 := blk_frozen BK80103.out 5; have hfz89_6 := blk_frozen BK80103.out 6))
                                              go_roundg kj55
                                              case measure => have := HJ7.out; have := HK2.out; have := HJ26.out; have := HJ31.out; have := HJ39.out; have := HJ55.out; omega
                                              case rel => exact ⟨(wrap64 (x7_31 + 1)), (t80105), (x9_2), (true), (x80102000_2), (x80102001_2), (x80102002_2), (x80102003_2), (x80102004_2), (x80102005_2), (x80102006_2), (t80106), (t80107), (t80108), (t80109), (t80110), (t80111), (t80112), (by first | rfl | (simp; done) | (simp [*]; done)), (by first | rfl | (simp; done) | (simp [*]; done)), (by first | rfl | (simp; done) | (simp [*]; done)), (by first | rfl | (simp; done) | (simp [*]; done)), H', ⟨by have := HJ7.out; have := HK2.out; have := HJ26.out; have := HJ31.out; have := HJ39.out; have := HJ55.out; omega⟩, ⟨by (with_reducible repeat (first | refine blk_drewN ?_ _ | refine blk_drew ?_ | refine blk_alloc ?_ _)); refine blk_far ?_ NB80101_80103.out _; (with_reducible repeat (first | refine blk_drewN ?_ _ | refine blk_drew ?_ | refine blk_alloc ?_ _)); refine blk_far ?_ NB80101_80103.out _; (with_reducible repeat (first | refine blk_drewN ?_ _ | refine blk_drew ?_ | refine blk_alloc ?_ _)); refine blk_far ?_ NB80101_80103.out _; (with_reducible repeat (first | refine blk_drewN ?_ _ | refine blk_drew ?_ | refine blk_alloc ?_ _)); refine blk_far ?_ NB80101_80103.out _; (with_reducible repeat (first | refine blk_drewN ?_ _ | refine blk_drew ?_ | refine blk_alloc ?_ _)); refine blk_far ?_ NB80101_80103.out _; (with_reducible repeat (first | refine blk_drewN ?_ _ | refine blk_drew ?_ | refine blk_alloc ?_ _)); refine blk_far ?_ NB80101_80103.out _; (with_reducible repeat (first | refine blk_drewN ?_ _ | refine blk_drew ?_ | refine blk_alloc ?_ _)); refine blk_far ?_ NB80101_80103.out _; (with_reducible repeat (first | refine blk_drewN ?_ _ | refine blk_drew ?_ | refine blk_alloc ?_ _)); exact BK80101.out⟩, ⟨by (with_reducible repeat (first | refine blk_drewN ?_ _ | refine blk_drew ?_ | refine blk_alloc ?_ _)); refine blk_far ?_ NB80102_80103.out _; (with_reducible repeat (first | refine blk_drewN ?_ _ | refine blk_drew ?_ | refine blk_alloc ?_ _)); refine blk_far ?_ NB80102_80103.out _; (with_reducible repeat (first | refine blk_drewN ?_ _ | refine blk_drew ?_ | refine blk_alloc ?_ _)); refine blk_far ?_ NB80102_80103.out _; (with_reducible repeat (first | refine blk_drewN ?_ _ | refine blk_drew ?_ | refine blk_alloc ?_ _)); refine blk_far ?_ NB80102_80103.out _; (with_reducible repeat (first | refine blk_drewN ?_ _ | refine blk_drew ?_ | refine blk_alloc ?_ _)); refine blk_far ?_ NB80102_80103.out _; (with_reducible repeat (first | refine blk_drewN ?_ _ | refine blk_drew ?_ | refine blk_alloc ?_ _)); refine blk_far ?_ NB80102_80103.out _; (with_reducible repeat (first | refine blk_drewN ?_ _ | refine blk_drew ?_ | refine blk_alloc ?_ _)); refine blk_far ?_ NB80102_80103.out _; (with_reducible repeat (first | refine blk_drewN ?_ _ | refine blk_drew ?_ | refine blk_alloc ?_ _)); exact BK80102.out⟩, ⟨by (with_reducible repeat (first | refine blk_drewN ?_ _ | refine blk_drew ?_ | refine blk_alloc ?_ _)); refine blk_put (cs := #[.int .i64 t80106, .int .i64 t80107, .int .i64 t80108, .int .i64 t80109, .int .i64 t80110, .int .i64 t80111, .int .i64 x80104006_2]) ?_ 6 _ rfl; (with_reducible repeat (first | refine blk_drewN ?_ _ | refine blk_drew ?_ | refine blk_alloc ?_ _)); refine blk_put (cs := #[.int .i64 t80106, .int .i64 t80107, .int .i64 t80108, .int .i64 t80109, .int .i64 t80110, .int .i64 x80104005_2, .int .i64 x80104006_2]) ?_ 5 _ rfl; (with_reducible repeat (first | refine blk_drewN ?_ _ | refine blk_drew ?_ | refine blk_alloc ?_ _)); refine blk_put (cs := #[.int .i64 t80106, .int .i64 t80107, .int .i64 t80108, .int .i64 t80109, .int .i64 x80104004_2, .int .i64 x80104005_2, .int .i64 x80104006_2]) ?_ 4 _ rfl; (with_reducible repeat (first | refine blk_drewN ?_ _ | refine blk_drew ?_ | refine blk_alloc ?_ _)); refine blk_put (cs := #[.int .i64 t80106, .int .i64 t80107, .int .i64 t80108, .int .i64 x80104003_2, .int .i64 x80104004_2, .int .i64 x80104005_2, .int .i64 x80104006_2]) ?_ 3 _ rfl; (with_reducible repeat (first | refine blk_drewN ?_ _ | refine blk_drew ?_ | refine blk_alloc ?_ _)); refine blk_put (cs := #[.int .i64 t80106, .int .i64 t80107, .int .i64 x80104002_2, .int .i64 x80104003_2, .int .i64 x80104004_2, .int .i64 x80104005_2, .int .i64 x80104006_2]) ?_ 2 _ rfl; (with_reducible repeat (first | refine blk_drewN ?_ _ | refine blk_drew ?_ | refine blk_alloc ?_ _)); refine blk_put (cs := #[.int .i64 t80106, .int .i64 x80104001_2, .int .i64 x80104002_2, .int .i64 x80104003_2, .int .i64 x80104004_2, .int .i64 x80104005_2, .int .i64 x80104006_2]) ?_ 1 _ rfl; (with_reducible repeat (first | refine blk_drewN ?_ _ | refine blk_drew ?_ | refine blk_alloc ?_ _)); refine blk_put (cs := #[.int .i64 x80104000_2, .int .i64 x80104001_2, .int .i64 x80104002_2, .int .i64 x80104003_2, .int .i64 x80104004_2, .int .i64 x80104005_2, .int .i64 x80104006_2]) ?_ 0 _ rfl; (with_reducible repeat (first | refine blk_drewN ?_ _ | refine blk_drew ?_ | refine blk_alloc ?_ _)); exact BK80103.out⟩, ⟨by repeat (first | (with_reducible first | exact HB.out | apply below_alloc | apply pw_below_drewN | apply below_drew1 | refine below_set ?_ GE80101.out | refine below_set ?_ GE80102.out | refine below_set ?_ GE80103.out) | exact HB.out)⟩⟩
                                          · rw [if_neg c75] at H
                                            exact absurd H (by simp)
                                        · rw [if_neg c74] at H
                                          exact absurd H (by simp)
              · rw [if_neg c26] at H
                have c26b0 : decide (x7_2 < (a0.size : Int)) = false := decide_eq_false c26
                clear c26
                by_cases c90 : x10_2 = true
                · subst c90
                  have H1 : (some (x80104000_2, x80104001_2, x80104002_2, x80104003_2, x80104004_2, x80104005_2, x80104006_2, 0, 0)) = some (r1, r2, r3, r4, r5, r6, r7, r8, r9) := by rw [if_pos rfl] at H; exact H
                  clear H
                  have H := H1
                  clear H1
                  simp only [Option.some.injEq, Prod.mk.injEq] at H
                  obtain ⟨rfl, rfl, rfl, rfl, rfl, rfl, rfl, rfl, rfl⟩ := H
                  have hnb91 := NB80103_80101.out
                  have hnc91 := NB80101_80103.out
                  have hnb92 := NB80103_80102.out
                  have hnc92 := NB80102_80103.out
                  have hcz93_0 : wr.cell? ⟨gb80103, 0, none⟩ = some (.int .i64 x80104000_2) := (blk_cell BK80103.out 0).trans rfl
                  have hcz93_1 : wr.cell? ⟨gb80103, 1, none⟩ = some (.int .i64 x80104001_2) := (blk_cell BK80103.out 1).trans rfl
                  have hcz93_2 : wr.cell? ⟨gb80103, 2, none⟩ = some (.int .i64 x80104002_2) := (blk_cell BK80103.out 2).trans rfl
                  have hcz93_3 : wr.cell? ⟨gb80103, 3, none⟩ = some (.int .i64 x80104003_2) := (blk_cell BK80103.out 3).trans rfl
                  have hcz93_4 : wr.cell? ⟨gb80103, 4, none⟩ = some (.int .i64 x80104004_2) := (blk_cell BK80103.out 4).trans rfl
                  have hcz93_5 : wr.cell? ⟨gb80103, 5, none⟩ = some (.int .i64 x80104005_2) := (blk_cell BK80103.out 5).trans rfl
                  have hcz93_6 : wr.cell? ⟨gb80103, 6, none⟩ = some (.int .i64 x80104006_2) := (blk_cell BK80103.out 6).trans rfl
                  have hfz93_0 := blk_frozen BK80103.out 0
                  have hfz93_1 := blk_frozen BK80103.out 1
                  have hfz93_2 := blk_frozen BK80103.out 2
                  have hfz93_3 := blk_frozen BK80103.out 3
                  have hfz93_4 := blk_frozen BK80103.out 4
                  have hfz93_5 := blk_frozen BK80103.out 5
                  have hfz93_6 := blk_frozen BK80103.out 6
                  have hnb94 := NB80101_80102.out
                  have hnc94 := NB80102_80101.out
                  have hcz95_0 : wr.cell? ⟨gb80101, 0, none⟩ = some (.int .i64 x80102000_2) := (blk_cell BK80101.out 0).trans rfl
                  have hcz95_1 : wr.cell? ⟨gb80101, 1, none⟩ = some (.int .i64 x80102001_2) := (blk_cell BK80101.out 1).trans rfl
                  have hcz95_2 : wr.cell? ⟨gb80101, 2, none⟩ = some (.int .i64 x80102002_2) := (blk_cell BK80101.out 2).trans rfl
                  have hcz95_3 : wr.cell? ⟨gb80101, 3, none⟩ = some (.int .i64 x80102003_2) := (blk_cell BK80101.out 3).trans rfl
                  have hcz95_4 : wr.cell? ⟨gb80101, 4, none⟩ = some (.int .i64 x80102004_2) := (blk_cell BK80101.out 4).trans rfl
                  have hcz95_5 : wr.cell? ⟨gb80101, 5, none⟩ = some (.int .i64 x80102005_2) := (blk_cell BK80101.out 5).trans rfl
                  have hcz95_6 : wr.cell? ⟨gb80101, 6, none⟩ = some (.int .i64 x80102006_2) := (blk_cell BK80101.out 6).trans rfl
                  have hfz95_0 := blk_frozen BK80101.out 0
                  have hfz95_1 := blk_frozen BK80101.out 1
                  have hfz95_2 := blk_frozen BK80101.out 2
                  have hfz95_3 := blk_frozen BK80101.out 3
                  have hfz95_4 := blk_frozen BK80101.out 4
                  have hfz95_5 := blk_frozen BK80101.out 5
                  have hfz95_6 := blk_frozen BK80101.out 6
                  go_wp2
                  refine bodyPost_ret (results_ctt rfl _ _ gb80101 23 #[.int .i64 x80104000_2, .int .i64 x80104001_2, .int .i64 x80104002_2, .int .i64 x80104003_2, .int .i64 x80104004_2, .int .i64 x80104005_2, .int .i64 x80104006_2] (0, 0) _ rfl (by (with_reducible repeat (first | refine blk_drewN ?_ _ | refine blk_drew ?_ | refine blk_alloc ?_ _)); refine blk_put (cs := #[.int .i64 x80104000_2, .int .i64 x80104001_2, .int .i64 x80104002_2, .int .i64 x80104003_2, .int .i64 x80104004_2, .int .i64 x80104005_2, .int .i64 x80102006_2]) ?_ 6 _ rfl; (with_reducible repeat (first | refine blk_drewN ?_ _ | refine blk_drew ?_ | refine blk_alloc ?_ _)); refine blk_put (cs := #[.int .i64 x80104000_2, .int .i64 x80104001_2, .int .i64 x80104002_2, .int .i64 x80104003_2, .int .i64 x80104004_2, .int .i64 x80102005_2, .int .i64 x80102006_2]) ?_ 5 _ rfl; (with_reducible repeat (first | refine blk_drewN ?_ _ | refine blk_drew ?_ | refine blk_alloc ?_ _)); refine blk_put (cs := #[.int .i64 x80104000_2, .int .i64 x80104001_2, .int .i64 x80104002_2, .int .i64 x80104003_2, .int .i64 x80102004_2, .int .i64 x80102005_2, .int .i64 x80102006_2]) ?_ 4 _ rfl; (with_reducible repeat (first | refine blk_drewN ?_ _ | refine blk_drew ?_ | refine blk_alloc ?_ _)); refine blk_put (cs := #[.int .i64 x80104000_2, .int .i64 x80104001_2, .int .i64 x80104002_2, .int .i64 x80102003_2, .int .i64 x80102004_2, .int .i64 x80102005_2, .int .i64 x80102006_2]) ?_ 3 _ rfl; (with_reducible repeat (first | refine blk_drewN ?_ _ | refine blk_drew ?_ | refine blk_alloc ?_ _)); refine blk_put (cs := #[.int .i64 x80104000_2, .int .i64 x80104001_2, .int .i64 x80102002_2, .int .i64 x80102003_2, .int .i64 x80102004_2, .int .i64 x80102005_2, .int .i64 x80102006_2]) ?_ 2 _ rfl; (with_reducible repeat (first | refine blk_drewN ?_ _ | refine blk_drew ?_ | refine blk_alloc ?_ _)); refine blk_put (cs := #[.int .i64 x80104000_2, .int .i64 x80102001_2, .int .i64 x80102002_2, .int .i64 x80102003_2, .int .i64 x80102004_2, .int .i64 x80102005_2, .int .i64 x80102006_2]) ?_ 1 _ rfl; (with_reducible repeat (first | refine blk_drewN ?_ _ | refine blk_drew ?_ | refine blk_alloc ?_ _)); refine blk_put (cs := #[.int .i64 x80102000_2, .int .i64 x80102001_2, .int .i64 x80102002_2, .int .i64 x80102003_2, .int .i64 x80102004_2, .int .i64 x80102005_2, .int .i64 x80102006_2]) ?_ 0 _ rfl; (with_reducible repeat (first | refine blk_drewN ?_ _ | refine blk_drew ?_ | refine blk_alloc ?_ _)); exact BK80101.out) Try.underlying23 rfl (by kernel_rfl)) rfl ?_
                  exact ⟨by first | rfl | (simp [errW_none, errW_some] <;> rfl) | (simp [*, errW_none, errW_some] <;> rfl), by repeat (first | (with_reducible first | exact HB.out | apply below_alloc | apply pw_below_drewN | apply below_drew1 | refine below_set ?_ GE80101.out | refine below_set ?_ GE80102.out | refine below_set ?_ GE80103.out) | exact HB.out)⟩
                · replace c90 := Bool.eq_false_iff.mpr c90
                  subst c90
                  have H1 : (some (0, 0, 0, 0, 0, 0, 0, 34, x7_2)) = some (r1, r2, r3, r4, r5, r6, r7, r8, r9) := by rw [if_neg (show ¬ (false = true) by decide)] at H; exact H
                  clear H
                  have H := H1
                  clear H1
                  simp only [Option.some.injEq, Prod.mk.injEq] at H
                  obtain ⟨rfl, rfl, rfl, rfl, rfl, rfl, rfl, rfl, rfl⟩ := H
                  have hnb96 := NB80102_80101.out
                  have hnc96 := NB80101_80102.out
                  have hnb97 := NB80102_80103.out
                  have hnc97 := NB80103_80102.out
                  have hcz98_0 : wr.cell? ⟨gb80102, 0, none⟩ = some (.int .i64 0) := (blk_cell BK80102.out 0).trans rfl
                  have hcz98_1 : wr.cell? ⟨gb80102, 1, none⟩ = some (.int .i64 0) := (blk_cell BK80102.out 1).trans rfl
                  have hcz98_2 : wr.cell? ⟨gb80102, 2, none⟩ = some (.int .i64 0) := (blk_cell BK80102.out 2).trans rfl
                  have hcz98_3 : wr.cell? ⟨gb80102, 3, none⟩ = some (.int .i64 0) := (blk_cell BK80102.out 3).trans rfl
                  have hcz98_4 : wr.cell? ⟨gb80102, 4, none⟩ = some (.int .i64 0) := (blk_cell BK80102.out 4).trans rfl
                  have hcz98_5 : wr.cell? ⟨gb80102, 5, none⟩ = some (.int .i64 0) := (blk_cell BK80102.out 5).trans rfl
                  have hcz98_6 : wr.cell? ⟨gb80102, 6, none⟩ = some (.int .i64 0) := (blk_cell BK80102.out 6).trans rfl
                  have hfz98_0 := blk_frozen BK80102.out 0
                  have hfz98_1 := blk_frozen BK80102.out 1
                  have hfz98_2 := blk_frozen BK80102.out 2
                  have hfz98_3 := blk_frozen BK80102.out 3
                  have hfz98_4 := blk_frozen BK80102.out 4
                  have hfz98_5 := blk_frozen BK80102.out 5
                  have hfz98_6 := blk_frozen BK80102.out 6
                  have hnb99 := NB80101_80103.out
                  have hnc99 := NB80103_80101.out
                  have hcz100_0 : wr.cell? ⟨gb80101, 0, none⟩ = some (.int .i64 x80102000_2) := (blk_cell BK80101.out 0).trans rfl
                  have hcz100_1 : wr.cell? ⟨gb80101, 1, none⟩ = some (.int .i64 x80102001_2) := (blk_cell BK80101.out 1).trans rfl
                  have hcz100_2 : wr.cell? ⟨gb80101, 2, none⟩ = some (.int .i64 x80102002_2) := (blk_cell BK80101.out 2).trans rfl
                  have hcz100_3 : wr.cell? ⟨gb80101, 3, none⟩ = some (.int .i64 x80102003_2) := (blk_cell BK80101.out 3).trans rfl
                  have hcz100_4 : wr.cell? ⟨gb80101, 4, none⟩ = some (.int .i64 x80102004_2) := (blk_cell BK80101.out 4).trans rfl
                  have hcz100_5 : wr.cell? ⟨gb80101, 5, none⟩ = some (.int .i64 x80102005_2) := (blk_cell BK80101.out 5).trans rfl
                  have hcz100_6 : wr.cell? ⟨gb80101, 6, none⟩ = some (.int .i64 x80102006_2) := (blk_cell BK80101.out 6).trans rfl
                  have hfz100_0 := blk_frozen BK80101.out 0
                  have hfz100_1 := blk_frozen BK80101.out 1
                  have hfz100_2 := blk_frozen BK80101.out 2
                  have hfz100_3 := blk_frozen BK80101.out 3
                  have hfz100_4 := blk_frozen BK80101.out 4
                  have hfz100_5 := blk_frozen BK80101.out 5
                  have hfz100_6 := blk_frozen BK80101.out 6
                  go_wp2
                  refine bodyPost_ret (results_ctt rfl _ _ gb80101 23 #[.int .i64 0, .int .i64 0, .int .i64 0, .int .i64 0, .int .i64 0, .int .i64 0, .int .i64 0] (0, 0) _ rfl (by (with_reducible repeat (first | refine blk_drewN ?_ _ | refine blk_drew ?_ | refine blk_alloc ?_ _)); refine blk_put (cs := #[.int .i64 0, .int .i64 0, .int .i64 0, .int .i64 0, .int .i64 0, .int .i64 0, .int .i64 x80102006_2]) ?_ 6 _ rfl; (with_reducible repeat (first | refine blk_drewN ?_ _ | refine blk_drew ?_ | refine blk_alloc ?_ _)); refine blk_put (cs := #[.int .i64 0, .int .i64 0, .int .i64 0, .int .i64 0, .int .i64 0, .int .i64 x80102005_2, .int .i64 x80102006_2]) ?_ 5 _ rfl; (with_reducible repeat (first | refine blk_drewN ?_ _ | refine blk_drew ?_ | refine blk_alloc ?_ _)); refine blk_put (cs := #[.int .i64 0, .int .i64 0, .int .i64 0, .int .i64 0, .int .i64 x80102004_2, .int .i64 x80102005_2, .int .i64 x80102006_2]) ?_ 4 _ rfl; (with_reducible repeat (first | refine blk_drewN ?_ _ | refine blk_drew ?_ | refine blk_alloc ?_ _)); refine blk_put (cs := #[.int .i64 0, .int .i64 0, .int .i64 0, .int .i64 x80102003_2, .int .i64 x80102004_2, .int .i64 x80102005_2, .int .i64 x80102006_2]) ?_ 3 _ rfl; (with_reducible repeat (first | refine blk_drewN ?_ _ | refine blk_drew ?_ | refine blk_alloc ?_ _)); refine blk_put (cs := #[.int .i64 0, .int .i64 0, .int .i64 x80102002_2, .int .i64 x80102003_2, .int .i64 x80102004_2, .int .i64 x80102005_2, .int .i64 x80102006_2]) ?_ 2 _ rfl; (with_reducible repeat (first | refine blk_drewN ?_ _ | refine blk_drew ?_ | refine blk_alloc ?_ _)); refine blk_put (cs := #[.int .i64 0, .int .i64 x80102001_2, .int .i64 x80102002_2, .int .i64 x80102003_2, .int .i64 x80102004_2, .int .i64 x80102005_2, .int .i64 x80102006_2]) ?_ 1 _ rfl; (with_reducible repeat (first | refine blk_drewN ?_ _ | refine blk_drew ?_ | refine blk_alloc ?_ _)); refine blk_put (cs := #[.int .i64 x80102000_2, .int .i64 x80102001_2, .int .i64 x80102002_2, .int .i64 x80102003_2, .int .i64 x80102004_2, .int .i64 x80102005_2, .int .i64 x80102006_2]) ?_ 0 _ rfl; (with_reducible repeat (first | refine blk_drewN ?_ _ | refine blk_drew ?_ | refine blk_alloc ?_ _)); exact BK80101.out) Try.underlying23 rfl (by kernel_rfl)) rfl ?_
                  exact ⟨by first | rfl | (simp [errW_none, errW_some] <;> rfl) | (simp [*, errW_none, errW_some] <;> rfl), by repeat (first | (with_reducible first | exact HB.out | apply below_alloc | apply pw_below_drewN | apply below_drew1 | refine below_set ?_ GE80101.out | refine below_set ?_ GE80102.out | refine below_set ?_ GE80103.out) | exact HB.out)⟩

end Go.Proofs.Ytofafljfabgpmaa.GC
