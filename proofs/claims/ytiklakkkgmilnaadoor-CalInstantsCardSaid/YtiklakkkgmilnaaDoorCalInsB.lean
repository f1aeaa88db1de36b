/- The shapes of a zone's part in the reference and in cal; the reference's zone beside cal's. -/
import Derived.Test.YtiklakkkgmilnaaDoorCalInsA
set_option linter.unusedVariables false
set_option linter.unusedSimpArgs false
namespace Go.Proofs.YtiklakkkgmilnaaDoor.CalP
open Go.RowKit Go.IntWalk Go.Proofs.YtiklakkkgmilnaaDoorW.PrintWords Go.Proofs.YtiklakkkgmilnaaDoor.Ext Go.Proofs.YtiklakkkgmilnaaDoor.PCal Go.Proofs.YtiklakkkgmilnaaDoor.GC

theorem fitN_congr (s h h' : ByteArray) : ∀ (m i : Nat), (∀ j : Nat, i ≤ j → j < i + m → CalP.mt (bt s j) (bt h j) = CalP.mt (bt s j) (bt h' j)) → fitN s h m i = fitN s h' m i := by
  intro m
  induction m with
  | zero => intro i _; rfl
  | succ m ih =>
    intro i hj
    rw [fitN, fitN, hj i (Nat.le_refl _) (by omega), ih (i + 1) (fun j a b => hj j (by omega) (by omega))]
theorem fit_congr (s h h' : ByteArray) (hz : h.size = h'.size) (h0 : CalP.mt (bt s 0) (bt h 0) = CalP.mt (bt s 0) (bt h' 0)) (hj : ∀ j : Nat, 1 ≤ j → j < h.size → bt h j = bt h' j) : fit s h = fit s h' := by
  unfold fit
  rw [← hz]
  refine fitN_congr s h h' _ _ (fun j _ b => ?_)
  by_cases e : j = 0
  · subst e; exact h0
  · rw [hj j (by omega) (by omega)]
theorem fit_first (s h : ByteArray) (h0 : CalP.mt (bt s 0) (bt h 0) = false) : fit s h = 0 := by
  unfold fit
  cases hm : h.size with
  | zero => rfl
  | succ m => rw [fitN, if_neg (by rintro ⟨_, z⟩; have z' : CalP.mt (bt s 0) (bt h 0) = true := z; rw [h0] at z'; cases z')]
def LZ (ext : Bool) : List ByteArray := [⟨#[90]⟩, ⟨#[115, 100, 100]⟩, if ext then ⟨#[115, 100, 100, 58, 100, 100]⟩ else ⟨#[115, 100, 100, 100, 100]⟩]
def RZ (ext : Bool) : List ByteArray := if ext then [⟨#[90]⟩, ⟨#[43, 100, 100]⟩, ⟨#[45, 100, 100]⟩, ⟨#[43, 100, 100, 58, 100, 100]⟩, ⟨#[45, 100, 100, 58, 100, 100]⟩] else [⟨#[90]⟩, ⟨#[43, 100, 100]⟩, ⟨#[45, 100, 100]⟩, ⟨#[43, 100, 100, 100, 100]⟩, ⟨#[45, 100, 100, 100, 100]⟩]
theorem mx0 (a : Nat) : mx 0 (a : Int) = a := by unfold mx; omega
/-- the shapes of a zone: cal's and the reference's answers -/
theorem zone_shapes (Z : ByteArray) (ext : Bool) (h1 : 1 ≤ Z.size) (hc : bt Z 0 = 90 ∨ bt Z 0 = 43 ∨ bt Z 0 = 45) :
    (shp Z (LZ ext) 0 0 = (0, 0) ∧ rshp Z (RZ ext) 0 0 = (0, (Z.size : Int)) ∧ bt Z 0 = 90 ∧ Z.size = 1) ∨
    (shp Z (LZ ext) 0 0 = (1, 0) ∧ 0 ≤ (rshp Z (RZ ext) 0 0).1 ∧ bt Z 0 ≠ 90 ∧ fit Z ⟨#[115, 100, 100]⟩ = 3 ∧ Z.size = 3) ∨
    (shp Z (LZ ext) 0 0 = (2, 0) ∧ 0 ≤ (rshp Z (RZ ext) 0 0).1 ∧ bt Z 0 ≠ 90 ∧ fit Z (if ext then ⟨#[115, 100, 100, 58, 100, 100]⟩ else ⟨#[115, 100, 100, 100, 100]⟩) = (if ext then 6 else 5) ∧ Z.size = (if ext then 6 else 5)) ∨
    (∃ b : Nat, shp Z (LZ ext) 0 0 = (-1, (b : Int)) ∧ rshp Z (RZ ext) 0 0 = (-1, (b : Int)) ∧ b ≤ 10) := by
  have key : ∀ (A B C : ByteArray) (n : Nat), B.size = n → C.size = n → A.size = n → n ≤ 10 →
      (∀ j : Nat, 1 ≤ j → j < n → bt A j = bt B j ∧ bt A j = bt C j) → bt A 0 = 115 → bt B 0 = 43 → bt C 0 = 45 →
      (bt Z 0 = 90 → fit Z A = 0 ∧ fit Z B = 0 ∧ fit Z C = 0) ∧ (bt Z 0 = 43 → fit Z B = fit Z A ∧ fit Z C = 0) ∧ (bt Z 0 = 45 → fit Z C = fit Z A ∧ fit Z B = 0) := by
    intro A B C n hB hC hA hn hj a0 b0 c0
    refine ⟨fun e => ⟨fit_first _ _ ?_, fit_first _ _ ?_, fit_first _ _ ?_⟩, fun e => ⟨?_, fit_first _ _ ?_⟩, fun e => ⟨?_, fit_first _ _ ?_⟩⟩
    · rw [e, a0]; rfl
    · rw [e, b0]; rfl
    · rw [e, c0]; rfl
    · exact fit_congr _ _ _ (by omega) (by rw [e, a0, b0]; rfl) (fun j a b => ((hj j a (by omega)).1).symm)
    · rw [e, c0]; rfl
    · exact fit_congr _ _ _ (by omega) (by rw [e, a0, c0]; rfl) (fun j a b => ((hj j a (by omega)).2).symm)
    · rw [e, b0]; rfl
  have k3 := key ⟨#[115, 100, 100]⟩ ⟨#[43, 100, 100]⟩ ⟨#[45, 100, 100]⟩ 3 rfl rfl rfl (by omega) (fun j a b => by
    rcases (by omega : j = 1 ∨ j = 2) with rfl | rfl <;> exact ⟨rfl, rfl⟩) rfl rfl rfl
  have kz : (bt Z 0 = 90 → fit Z ⟨#[90]⟩ = 1) ∧ (bt Z 0 ≠ 90 → fit Z ⟨#[90]⟩ = 0) := by
    constructor
    · intro e
      have : CalP.mt (bt Z ((0 : Nat) : Int)) (bt ⟨#[90]⟩ ((0 : Nat) : Int)) = true := by
        show CalP.mt (bt Z 0) 90 = true
        rw [e]; rfl
      show fitN Z ⟨#[90]⟩ 1 0 = 1
      rw [fitN, if_pos ⟨by omega, this⟩]; rfl
    · intro e
      refine fit_first _ _ ?_
      show CalP.mt (bt Z 0) 90 = false
      unfold CalP.mt
      rw [if_neg (by omega), if_neg (by omega)]
      exact decide_eq_false e
  have l3 := fit_le Z ⟨#[115, 100, 100]⟩
  have l3' : fit Z ⟨#[115, 100, 100]⟩ ≤ 3 := l3.2.1
  generalize hA : (if ext = true then (⟨#[115, 100, 100, 58, 100, 100]⟩ : ByteArray) else ⟨#[115, 100, 100, 100, 100]⟩) = A
  generalize hn : (if ext = true then 6 else 5 : Nat) = n
  obtain ⟨B, C, hR, hB, hC, hA', hn', k5⟩ : ∃ B C : ByteArray, RZ ext = [⟨#[90]⟩, ⟨#[43, 100, 100]⟩, ⟨#[45, 100, 100]⟩, B, C] ∧ B.size = n ∧ C.size = n ∧ A.size = n ∧ (n = 5 ∨ n = 6) ∧ ((bt Z 0 = 90 → fit Z A = 0 ∧ fit Z B = 0 ∧ fit Z C = 0) ∧ (bt Z 0 = 43 → fit Z B = fit Z A ∧ fit Z C = 0) ∧ (bt Z 0 = 45 → fit Z C = fit Z A ∧ fit Z B = 0)) := by
    cases ext
    · subst hA; subst hn
      exact ⟨⟨#[43, 100, 100, 100, 100]⟩, ⟨#[45, 100, 100, 100, 100]⟩, rfl, rfl, rfl, rfl, .inl rfl, key ⟨#[115, 100, 100, 100, 100]⟩ _ _ 5 rfl rfl rfl (by omega) (fun j a b => by
        rcases (by omega : j = 1 ∨ j = 2 ∨ j = 3 ∨ j = 4) with rfl | rfl | rfl | rfl <;> exact ⟨rfl, rfl⟩) rfl rfl rfl⟩
    · subst hA; subst hn
      exact ⟨⟨#[43, 100, 100, 58, 100, 100]⟩, ⟨#[45, 100, 100, 58, 100, 100]⟩, rfl, rfl, rfl, rfl, .inr rfl, key ⟨#[115, 100, 100, 58, 100, 100]⟩ _ _ 6 rfl rfl rfl (by omega) (fun j a b => by
        rcases (by omega : j = 1 ∨ j = 2 ∨ j = 3 ∨ j = 4 ∨ j = 5) with rfl | rfl | rfl | rfl | rfl <;> exact ⟨rfl, rfl⟩) rfl rfl rfl⟩
  have hL : LZ ext = [⟨#[90]⟩, ⟨#[115, 100, 100]⟩, A] := by rw [← hA]; rfl
  have lA : fit Z A ≤ n := by rw [← hA']; exact (fit_le Z A).2.1
  rw [hL, hR]
  simp only [shp, rshp]
  have s1 : (⟨#[90]⟩ : ByteArray).size = 1 := rfl
  have s3 : (⟨#[115, 100, 100]⟩ : ByteArray).size = 3 := rfl
  have s4 : (⟨#[43, 100, 100]⟩ : ByteArray).size = 3 := rfl
  have s5 : (⟨#[45, 100, 100]⟩ : ByteArray).size = 3 := rfl
  rw [s1, s3, s4, s5, hB, hC, hA']
  rcases hc with e | e | e
  · obtain ⟨q1, q2, q3⟩ := k3.1 e
    obtain ⟨q4, q5, q6⟩ := k5.1 e
    rw [kz.1 e, q1, q2, q3, q4, q5, q6]
    by_cases z : Z.size = 1
    · refine .inl ⟨?_, ?_, e, z⟩
      · rw [if_pos (by omega)]; rfl
      · rw [if_pos (by omega)]; rfl
    · refine .inr (.inr (.inr ⟨1, ?_, ?_, by omega⟩))
      · rw [if_neg (by omega), if_neg (by omega), if_neg (by omega)]; rfl
      · rw [if_neg (by omega), if_neg (by omega), if_neg (by omega), if_neg (by omega), if_neg (by omega)]; rfl
  · obtain ⟨q1, q2⟩ := k3.2.1 e
    obtain ⟨q4, q5⟩ := k5.2.1 e
    have e9 : bt Z 0 ≠ 90 := by omega
    rw [kz.2 e9, q1, q2, q4, q5]
    by_cases z : fit Z ⟨#[115, 100, 100]⟩ = Z.size ∧ fit Z ⟨#[115, 100, 100]⟩ = 3
    · refine .inr (.inl ⟨?_, ?_, e9, z.2, by omega⟩)
      · rw [if_neg (by omega), if_pos z]; rfl
      · rw [if_neg (by omega), if_pos z]; show (0 : Int) ≤ ((0 + 1 : Nat) : Int); omega
    · by_cases z2 : fit Z A = Z.size ∧ fit Z A = n
      · refine .inr (.inr (.inl ⟨?_, ?_, e9, z2.2, by omega⟩))
        · rw [if_neg (by omega), if_neg z, if_pos z2]; rfl
        · rw [if_neg (by omega), if_neg z, if_neg (by omega), if_pos z2]; show (0 : Int) ≤ ((0 + 1 + 1 + 1 : Nat) : Int); omega
      · refine .inr (.inr (.inr ⟨max (fit Z ⟨#[115, 100, 100]⟩) (fit Z A), ?_, ?_, by omega⟩))
        · rw [if_neg (by omega), if_neg z, if_neg z2]; unfold mx; congr 1; omega
        · rw [if_neg (by omega), if_neg z, if_neg (by omega), if_neg z2, if_neg (by omega)]; unfold mx; congr 1; omega
  · obtain ⟨q1, q2⟩ := k3.2.2 e
    obtain ⟨q4, q5⟩ := k5.2.2 e
    have e9 : bt Z 0 ≠ 90 := by omega
    rw [kz.2 e9, q1, q2, q4, q5]
    by_cases z : fit Z ⟨#[115, 100, 100]⟩ = Z.size ∧ fit Z ⟨#[115, 100, 100]⟩ = 3
    · refine .inr (.inl ⟨?_, ?_, e9, z.2, by omega⟩)
      · rw [if_neg (by omega), if_pos z]; rfl
      · rw [if_neg (by omega), if_neg (by omega), if_pos z]; show (0 : Int) ≤ ((0 + 1 + 1 : Nat) : Int); omega
    · by_cases z2 : fit Z A = Z.size ∧ fit Z A = n
      · refine .inr (.inr (.inl ⟨?_, ?_, e9, z2.2, by omega⟩))
        · rw [if_neg (by omega), if_neg z, if_pos z2]; rfl
        · rw [if_neg (by omega), if_neg (by omega), if_neg z, if_neg (by omega), if_pos z2]; show (0 : Int) ≤ ((0 + 1 + 1 + 1 + 1 : Nat) : Int); omega
      · refine .inr (.inr (.inr ⟨max (fit Z ⟨#[115, 100, 100]⟩) (fit Z A), ?_, ?_, by omega⟩))
        · rw [if_neg (by omega), if_neg z, if_neg z2]; unfold mx; congr 1; omega
        · rw [if_neg (by omega), if_neg (by omega), if_neg z, if_neg (by omega), if_neg z2]; unfold mx; congr 1; omega
/-- what cal's zone answers of hours and minutes -/
def znR (c h m g : Int) : Int × Bool × Int := if h > 23 then (0, false, 1) else if m > 59 then (0, false, g) else if c = 43 then (60 * h + m, true, 0) else if 60 * h + m = 0 then (0, false, 0) else (-(60 * h + m), true, 0)
theorem zone_j1 (k : Nat) (Z : ByteArray) (g h m : Int) (hz : 1 ≤ Z.size) (hh : 0 ≤ h ∧ h ≤ 99) (hm : 0 ≤ m ∧ m ≤ 99) : cal_zone.j1 (k + 1) Z g h m = some (znR (bt Z 0) h m g) := by
  have e1 : wrap64 (wrap64 (60 * h) + m) = 60 * h + m := by unfold wrap64; omega
  have e2 : wrap64 (-(60 * h + m)) = -(60 * h + m) := by unfold wrap64; omega
  rw [cal_zone.j1, e1, e2, if_pos (show (0 : Int) < (Z.size : Int) by omega)]
  unfold znR
  repeat' split
  all_goals first | rfl | omega
theorem rzone_j0 (k : Nat) (S : ByteArray) (z h m g : Int) (p : List Int) (hz0 : 0 ≤ z) (hz : z < S.size) (hh : 0 ≤ h ∧ h ≤ 23) (hm : 0 ≤ m ∧ m ≤ 59) (hc : bt S z = 43 ∨ bt S z = 45) (v : List Int) (hv : 0 < v.length) (h0 : rd v 0 = h) :
    larderref03_zone.j0 (k + 1) S z v m = some (60 * (znR (bt S z) h m g).1, if (znR (bt S z) h m g).2.1 = true then 0 else z + (znR (bt S z) h m g).2.2, (znR (bt S z) h m g).2.1) := by
  have e1 : wrap64 (wrap64 (h * 3600) + wrap64 (m * 60)) = h * 3600 + m * 60 := by unfold wrap64; omega
  have e2 : wrap64 (-(h * 3600 + m * 60)) = -(h * 3600 + m * 60) := by unfold wrap64; omega
  rw [larderref03_zone.j0, h0, e1, e2, if_pos (by omega), if_pos hz0, if_pos hz]
  unfold znR
  rw [if_neg (show ¬ h > 23 by omega), if_neg (show ¬ m > 59 by omega)]
  rcases hc with e | e
  · rw [e, if_neg (show ¬ (43 : Int) = 45 by omega), if_pos (show (43 : Int) = 43 from rfl)]
    simp; omega
  · rw [e, if_pos (show (45 : Int) = 45 from rfl), if_neg (show ¬ (45 : Int) = 43 by omega)]
    by_cases q : 60 * h + m = 0
    · rw [if_pos (by omega), if_pos q]; simp
    · rw [if_neg (by omega), if_neg q]; simp; omega
theorem zone_rel {S Z : ByteArray} {z : Nat} (hA : At S z Z) (hs : S.size ≤ 1000) (ext : Bool) (h1 : 1 ≤ Z.size) (hc : bt Z 0 = 90 ∨ bt Z 0 = 43 ∨ bt Z 0 = 45) (k : Nat) (hk : 40 ≤ k) :
    ∃ zr : Int × Bool × Int, cal_zone.f 100 Z ext = some zr ∧ (-2000 ≤ zr.1 ∧ zr.1 ≤ 2000 ∧ 0 ≤ zr.2.2 ∧ zr.2.2 ≤ 10) ∧
      ((rshp Z (RZ ext) 0 0 = (-1, zr.2.2) ∧ zr.2.1 = false) ∨ (0 ≤ (rshp Z (RZ ext) 0 0).1 ∧ larderref03_zone.f k S z = some (60 * zr.1, if zr.2.1 = true then 0 else z + zr.2.2, zr.2.1))) := by
  obtain ⟨k, rfl⟩ : ∃ q, k = q + 30 := ⟨k - 30, by omega⟩
  have zs := hA.size
  have b0 := hA.byte 0 (by omega)
  have b0' : bt S (z : Int) = bt Z 0 := b0
  have hcal : cal_zone.f 100 Z ext = cal_zone.j0 100 Z (if ext then ⟨#[115, 100, 100, 58, 100, 100]⟩ else ⟨#[115, 100, 100, 100, 100]⟩) (if ext then 4 else 3) := by
    cases ext <;> rfl
  have hsh := shape_eq 99 Z (LZ ext) (by show 3 ≤ 1000; omega) (by
    intro h hm
    have hm' : h = ⟨#[90]⟩ ∨ h = ⟨#[115, 100, 100]⟩ ∨ h = (if ext then ⟨#[115, 100, 100, 58, 100, 100]⟩ else ⟨#[115, 100, 100, 100, 100]⟩) := by simpa [LZ] using hm
    rcases hm' with rfl | rfl | rfl
    · decide
    · decide
    · cases ext <;> decide) (by show 50 + 3 ≤ 99; omega)
  have hsh' : cal_shape.f 99 Z ([⟨#[90]⟩, ⟨#[115, 100, 100]⟩, (if ext then ⟨#[115, 100, 100, 58, 100, 100]⟩ else ⟨#[115, 100, 100, 100, 100]⟩)] : List ByteArray) = some (shp Z (LZ ext) 0 0) := hsh
  rw [hcal, show (100 : Nat) = 99 + 1 from rfl, cal_zone.j0, hsh']
  simp only [Option.bind_some]
  rcases zone_shapes Z ext h1 hc with ⟨s1, s2, s3, s4⟩ | ⟨s1, s2, s3, s4, s5⟩ | ⟨s1, s2, s3, s4, s5⟩ | ⟨b, s1, s2, s3⟩
  · rw [s1, s2]
    refine ⟨(0, true, 0), by rw [if_neg (by omega), if_pos rfl], by simp, .inr ⟨by omega, ?_⟩⟩
    unfold larderref03_zone.f
    rw [if_pos (by omega), if_pos (by omega), b0', if_pos s3]; rfl
  · rw [s1]
    have d1 := dig_of (h := ⟨#[115, 100, 100]⟩) s4 1 3 (by decide) (by decide)
    have bd := nmv2_bd Z 1 d1
    have np := num_part 99 Z 1 3 (by omega) (by omega) (by omega) d1 (by omega)
    refine ⟨znR (bt Z 0) (CalP.nmv Z 1 2) 0 (if ext then 4 else 3), ?_, ?_, .inr ⟨s2, ?_⟩⟩
    · rw [if_neg (by omega), if_neg (by omega), if_pos (by omega), if_pos (by omega), np]
      simp only [Option.bind_some]
      rw [if_neg (by omega)]
      exact zone_j1 98 Z _ _ 0 h1 bd (by omega)
    · unfold znR; repeat' split
      all_goals (simp; try omega)
    · unfold larderref03_zone.f larderref03_parts.f
      rw [if_pos (by omega), if_pos (by omega), b0', if_neg s3, show wrap64 ((z : Int) + 1) = ((z + 1 : Nat) : Int) by unfold wrap64; omega, show k + 30 = k + 29 + 1 from rfl, parts_dig hA hs 1 (by omega) d1 _ (by omega) [] [] (by simp) (by simp),
        show k + 29 = k + 28 + 1 from rfl, parts_end hA (1 + 2) (by omega)]
      simp only [Option.bind_some, List.nil_append]
      rw [if_pos (by show (0 : Int) < 1; omega), show rd [CalP.nmv Z 1 2] 0 = CalP.nmv Z 1 2 from rfl]
      by_cases c1 : CalP.nmv Z 1 2 > 23
      · rw [if_pos c1, if_pos (by show (0 : Int) < 1; omega), show rd [((z + 1 : Nat) : Int)] 0 = ((z + 1 : Nat) : Int) from rfl]
        unfold znR; rw [if_pos c1]; rfl
      · rw [if_neg c1, if_neg (by show ¬ (1 : Int) > 1; omega), rzone_j0 _ S z (CalP.nmv Z 1 2) 0 (if ext then 4 else 3) [] (by omega) (by omega) (by omega) (by omega) (by rw [b0']; omega) _ (by simp) rfl, b0']
  · rw [s1]
    cases ext
    · have d1 := dig_of (h := ⟨#[115, 100, 100, 100, 100]⟩) s4 1 3 (by decide) (by decide)
      have d2 := dig_of (h := ⟨#[115, 100, 100, 100, 100]⟩) s4 3 5 (by decide) (by decide)
      have sz : Z.size = 5 := s5
      have bd := nmv2_bd Z 1 d1
      have bd2 := nmv2_bd Z 3 d2
      have np := num_part 99 Z 1 3 (by omega) (by omega) (by omega) d1 (by omega)
      have np2 := num_part 99 Z 3 5 (by omega) (by omega) (by omega) d2 (by omega)
      refine ⟨znR (bt Z 0) (CalP.nmv Z 1 2) (CalP.nmv Z 3 2) 3, ?_, ?_, .inr ⟨s2, ?_⟩⟩
      · rw [if_neg (by omega), if_neg (by omega), if_pos (by omega), if_pos (by omega), np]
        simp only [Option.bind_some, Bool.false_eq_true, ↓reduceIte]
        repeat rw [if_pos (by omega)]
        rw [sz, show ((3 : Int)).toNat = 3 from rfl, np2]
        simp only [Option.bind_some]
        exact zone_j1 98 Z _ _ _ h1 bd bd2
      · unfold znR; repeat' split
        all_goals (simp; try omega)
      · unfold larderref03_zone.f larderref03_parts.f
        rw [if_pos (by omega), if_pos (by omega), b0', if_neg s3, show wrap64 ((z : Int) + 1) = ((z + 1 : Nat) : Int) by unfold wrap64; omega, show k + 30 = k + 29 + 1 from rfl, parts_dig hA hs 1 (by omega) d1 _ (by omega) [] [] (by simp) (by simp),
          show k + 29 = k + 28 + 1 from rfl, parts_dig hA hs (1 + 2) (by omega) d2 _ (by omega) _ _ (by simp) (by simp), show k + 28 = k + 27 + 1 from rfl, parts_end hA _ (by omega)]
        simp only [Option.bind_some, List.nil_append, List.cons_append, List.singleton_append]
        rw [if_pos (by show (0 : Int) < 2; omega), show rd [CalP.nmv Z 1 2, CalP.nmv Z (1 + 2) 2] 0 = CalP.nmv Z 1 2 from rfl, show rd [CalP.nmv Z 1 2, CalP.nmv Z (1 + 2) 2] 1 = CalP.nmv Z 3 2 from rfl]
        by_cases c1 : CalP.nmv Z 1 2 > 23
        · rw [if_pos c1, if_pos (by show (0 : Int) < 2; omega), show rd [((z + 1 : Nat) : Int), ((z + (1 + 2) : Nat) : Int)] 0 = ((z + 1 : Nat) : Int) from rfl]
          unfold znR; rw [if_pos c1]; rfl
        · rw [if_neg c1, if_pos (by show (2 : Int) > 1; omega), if_pos (by show (1 : Int) < 2; omega)]
          by_cases c2 : CalP.nmv Z 3 2 > 59
          · rw [if_pos c2, if_pos (by show (1 : Int) < 2; omega), show rd [((z + 1 : Nat) : Int), ((z + (1 + 2) : Nat) : Int)] 1 = ((z + 3 : Nat) : Int) from rfl]
            unfold znR; rw [if_neg c1, if_pos c2]; rfl
          · rw [if_neg c2, rzone_j0 _ S z (CalP.nmv Z 1 2) (CalP.nmv Z 3 2) 3 [] (by omega) (by omega) (by omega) (by omega) (by rw [b0']; omega) _ (by simp) rfl, b0']
    · have d1 := dig_of (h := ⟨#[115, 100, 100, 58, 100, 100]⟩) s4 1 3 (by decide) (by decide)
      have d2 := dig_of (h := ⟨#[115, 100, 100, 58, 100, 100]⟩) s4 4 6 (by decide) (by decide)
      have c3 := col_of (h := ⟨#[115, 100, 100, 58, 100, 100]⟩) s4 3 (by decide) (by decide)
      have sz : Z.size = 6 := s5
      have bd := nmv2_bd Z 1 d1
      have bd2 := nmv2_bd Z 4 d2
      have np := num_part 99 Z 1 3 (by omega) (by omega) (by omega) d1 (by omega)
      have np2 := num_part 99 Z 4 6 (by omega) (by omega) (by omega) d2 (by omega)
      refine ⟨znR (bt Z 0) (CalP.nmv Z 1 2) (CalP.nmv Z 4 2) 4, ?_, ?_, .inr ⟨s2, ?_⟩⟩
      · rw [if_neg (by omega), if_neg (by omega), if_pos (by omega), if_pos (by omega), np]
        simp only [Option.bind_some, ↓reduceIte]
        repeat rw [if_pos (by omega)]
        rw [sz, show ((4 : Int)).toNat = 4 from rfl, np2]
        simp only [Option.bind_some]
        exact zone_j1 98 Z _ _ _ h1 bd bd2
      · unfold znR; repeat' split
        all_goals (simp; try omega)
      · unfold larderref03_zone.f larderref03_parts.f
        rw [if_pos (by omega), if_pos (by omega), b0', if_neg s3, show wrap64 ((z : Int) + 1) = ((z + 1 : Nat) : Int) by unfold wrap64; omega, show k + 30 = k + 29 + 1 from rfl, parts_dig hA hs 1 (by omega) d1 _ (by omega) [] [] (by simp) (by simp),
          show k + 29 = k + 28 + 1 from rfl, parts_col hA hs (1 + 2) (by omega) c3 d2 _ (by omega) _ _ (by simp) (by simp), show k + 28 = k + 27 + 1 from rfl, parts_end hA _ (by omega)]
        simp only [Option.bind_some, List.nil_append, List.cons_append, List.singleton_append]
        rw [if_pos (by show (0 : Int) < 2; omega), show rd [CalP.nmv Z 1 2, CalP.nmv Z (1 + 2 + 1) 2] 0 = CalP.nmv Z 1 2 from rfl, show rd [CalP.nmv Z 1 2, CalP.nmv Z (1 + 2 + 1) 2] 1 = CalP.nmv Z 4 2 from rfl]
        by_cases c1 : CalP.nmv Z 1 2 > 23
        · rw [if_pos c1, if_pos (by show (0 : Int) < 2; omega), show rd [((z + 1 : Nat) : Int), ((z + (1 + 2 + 1) : Nat) : Int)] 0 = ((z + 1 : Nat) : Int) from rfl]
          unfold znR; rw [if_pos c1]; rfl
        · rw [if_neg c1, if_pos (by show (2 : Int) > 1; omega), if_pos (by show (1 : Int) < 2; omega)]
          by_cases c2 : CalP.nmv Z 4 2 > 59
          · rw [if_pos c2, if_pos (by show (1 : Int) < 2; omega), show rd [((z + 1 : Nat) : Int), ((z + (1 + 2 + 1) : Nat) : Int)] 1 = ((z + 4 : Nat) : Int) from rfl]
            unfold znR; rw [if_neg c1, if_pos c2]; rfl
          · rw [if_neg c2, rzone_j0 _ S z (CalP.nmv Z 1 2) (CalP.nmv Z 4 2) 4 [] (by omega) (by omega) (by omega) (by omega) (by rw [b0']; omega) _ (by simp) rfl, b0']
  · rw [s1, s2]
    exact ⟨(0, false, (b : Int)), by rw [if_pos (by omega)], ⟨by simp, by simp, by simp, by simp; omega⟩, .inl ⟨rfl, rfl⟩⟩
end Go.Proofs.YtiklakkkgmilnaaDoor.CalP
