/- The law CalClock in plain numbers and texts: an instant printed in any zone is read as that instant. -/
import Derived.Test.YtiklakkkgmilnaaDoorCalZonP
import Derived.Test.YtiklakkkgmilnaaDoorCalAtP
import Derived.Test.YtiklakkkgmilnaaDoorGCxf11
set_option linter.unusedVariables false
set_option linter.unusedSimpArgs false
namespace Go.Proofs.YtiklakkkgmilnaaDoor.CalP
open Go.RowKit Go.IntWalk Go.Proofs.YtiklakkkgmilnaaDoorW.PrintWords Go.Proofs.YtiklakkkgmilnaaDoor.Ext Go.Proofs.YtiklakkkgmilnaaDoor.PCal Go.Proofs.YtiklakkkgmilnaaDoor.GC

def T0 (y m d : Int) : List Int := D4 y ++ [45] ++ D2 m ++ [45] ++ D2 d
def T1 (y m d : Int) : List Int := D4 y ++ D2 m ++ D2 d
def zE (z : Int) : List Int := if z = 0 then [90] else if z < 0 then 45 :: znE 45 (-z / 60) (-z % 60) else 43 :: znE 43 (z / 60) (z % 60)
def zB (z : Int) : List Int := if z = 0 then [90] else if z < 0 then 45 :: znB 45 (-z / 60) (-z % 60) else 43 :: znB 43 (z / 60) (z % 60)
def tE (y m d h mi s z : Int) : List Int := T0 y m d ++ (84 :: (ckE h mi s ++ zE z))
def tB (y m d h mi s z : Int) : List Int := T1 y m d ++ (84 :: (ckB h mi s ++ zB z))
theorem read_C {y m d sec v z0 : Int} {L C Z : List Int} {ext : Bool} (hL : noT L) (hl : L.length ≤ 10) (hx : decide (0 ≤ Lib.indexByte (strOfNums L).data.toList 45) = ext) (hd : cal_ParseDate.f (strOfNums L) = some (y, m, d, 0, 0)) (hv : vldB y m d = true)
  (hC : ∀ c ∈ C, 48 ≤ c ∧ c ≤ 58) (hCl : C.length ≤ 8) (hz : z0 = 90 ∨ z0 = 43 ∨ z0 = 45) (hZ : ∀ c ∈ Z, 48 ≤ c ∧ c ≤ 58) (hZl : Z.length ≤ 5) (hc : clockF (strOfNums C) ext = (sec, true, 0)) (hsec : 0 ≤ sec ∧ sec ≤ 86400)
  (hzn : cal_zone.f 100 (strOfNums (z0 :: Z)) ext = some (v, true, 0)) (hvb : -1439 ≤ v ∧ v ≤ 1439) (hr : 0 ≤ num y m d * 86400 + sec - 60 * v ∧ num y m d * 86400 + sec - 60 * v ≤ 315569519999) :
  cal_ParseInstant.f (strOfNums (L ++ (84 :: (C ++ z0 :: Z)))) = some (num y m d * 86400 + sec - 60 * v, 0, 0) := by
 have e0 : strOfNums (L ++ (84 :: (C ++ z0 :: Z))) = strOfNums L ++ ((⟨#[84]⟩ : ByteArray) ++ strOfNums (C ++ z0 :: Z)) := by
  rw [show (⟨#[84]⟩ : ByteArray) = strOfNums [84] from rfl, nums_app, nums_app]; rfl
 have ka := kA_nums (Z := Z) hC hz
 have szR : (strOfNums (C ++ z0 :: Z)).size = C.length + (1 + Z.length) := by rw [strOfNums_size, List.length_append, List.length_cons]; omega
 have hh : hrs (strOfNums (C ++ z0 :: Z)) = strOfNums C := by
  unfold hrs
  rw [ka, if_pos (by omega), Int.toNat_natCast, ext_nums']; simp
 have hz' : (strOfNums (C ++ z0 :: Z)).extract (kA (strOfNums (C ++ z0 :: Z))).toNat (strOfNums (C ++ z0 :: Z)).size = strOfNums (z0 :: Z) := by
  rw [ka, Int.toNat_natCast, ext_nums', List.take_of_length_le (by rw [strOfNums_size]; exact Nat.le_refl _), List.drop_left]
 have ho : odd8 (strOfNums (C ++ z0 :: Z)) = false := odd8_nums (fun c hc => by
  rcases List.mem_append.1 hc with hc | hc
  ·have := hC c hc; omega
  ·rcases List.mem_cons.1 hc with rfl | hc
   ·omega
   ·have := hZ c hc; omega)
 rw [e0, inst_TX hL (by omega) (by omega) hx hd ho sec true 0 (by rw [hh]; exact hc), if_neg (by omega), if_neg (by decide), hz', hzn, if_neg (by omega)]
 simp only [Option.bind_some]
 unfold inst4
 rw [if_neg (by simp; omega), if_neg (by simp), number_eq y m d hv]
 simp only [Option.bind_some]
 rw [if_neg (by omega)]
section
variable {y m d h mi s z : Int}
theorem zE_len (z : Int) : (zE z).length = if z = 0 then 1 else 6 := by
 unfold zE
 by_cases a : z = 0
 ·simp [a]
 ·by_cases b : z < 0 <;> simp [a, b, znE, D2]
theorem read_E (hv : vldB y m d = true) (hh : 0 ≤ h ∧ h ≤ 23) (hm : 0 ≤ mi ∧ mi ≤ 59) (hs : 0 ≤ s ∧ s ≤ 59) (hz : -1439 ≤ z ∧ z ≤ 1439) (hr : 0 ≤ num y m d * 86400 + (h * 3600 + mi * 60 + s) - 60 * z ∧ num y m d * 86400 + (h * 3600 + mi * 60 + s) - 60 * z ≤ 315569519999) :
  cal_ParseInstant.f (strOfNums (tE y m d h mi s z)) = some (num y m d * 86400 + (h * 3600 + mi * 60 + s) - 60 * z, 0, 0) := by
 obtain ⟨v1, v2, v3, v4, v5, v6⟩ := vld_out hv
 have hdm := dim_bd y m v3 v4
 have n0 : noT (T0 y m d) := noT_app (noT_app (noT_app (noT_app (noT_D4 ⟨v1, v2⟩) noT_45) (noT_D2 (by omega))) noT_45) (noT_D2 (by omega))
 have l0 : (T0 y m d).length ≤ 10 := by simp [T0, D4, D2]
 have x0 : decide (0 ≤ Lib.indexByte (strOfNums (T0 y m d)).data.toList 45) = true := dash0 (by simp [T0])
 have p0 : cal_ParseDate.f (strOfNums (T0 y m d)) = some (y, m, d, 0, 0) := parse_TL hv 0 (by omega) (fun q => absurd q (by omega))
 have c8 : (ckE h mi s).length ≤ 8 := by simp [ckE, D2]
 have znb : ∀ g a b : Int, 0 ≤ a ∧ a ≤ 23 → 0 ≤ b ∧ b ≤ 59 → ∀ c ∈ znE g a b, 48 ≤ c ∧ c ≤ 58 := by intro g a b ha hb c hc; simp [znE, D2] at hc; omega
 have znl : ∀ g a b : Int, (znE g a b).length ≤ 5 := by intro g a b; simp [znE, D2]
 unfold tE zE
 by_cases a0 : z = 0
 ·subst a0
  rw [if_pos rfl]
  exact read_C n0 l0 x0 p0 hv (okE hh hm hs) c8 (.inl rfl) (by simp) (by simp) (clockE hh hm hs) (by omega) (by decide +kernel) (by omega) (by omega)
 rw [if_neg a0]
 by_cases a1 : z < 0
 ·rw [if_pos a1]
  have hz' := zoneE (a := -z / 60) (b := -z % 60) (g := 45) (by omega) (by omega) (.inr ⟨rfl, by omega⟩)
  rw [show zv 45 (-z / 60) (-z % 60) = z by unfold zv; rw [if_neg (by omega)]; omega] at hz'
  exact read_C n0 l0 x0 p0 hv (okE hh hm hs) c8 (.inr (.inr rfl)) (znb _ _ _ (by omega) (by omega)) (znl _ _ _) (clockE hh hm hs) (by omega) hz' (by omega) (by omega)
 ·rw [if_neg a1]
  have hz' := zoneE (a := z / 60) (b := z % 60) (g := 43) (by omega) (by omega) (.inl rfl)
  rw [show zv 43 (z / 60) (z % 60) = z by unfold zv; rw [if_pos rfl]; omega] at hz'
  exact read_C n0 l0 x0 p0 hv (okE hh hm hs) c8 (.inr (.inl rfl)) (znb _ _ _ (by omega) (by omega)) (znl _ _ _) (clockE hh hm hs) (by omega) hz' (by omega) (by omega)
theorem read_B (hv : vldB y m d = true) (hh : 0 ≤ h ∧ h ≤ 23) (hm : 0 ≤ mi ∧ mi ≤ 59) (hs : 0 ≤ s ∧ s ≤ 59) (hz : -1439 ≤ z ∧ z ≤ 1439) (hr : 0 ≤ num y m d * 86400 + (h * 3600 + mi * 60 + s) - 60 * z ∧ num y m d * 86400 + (h * 3600 + mi * 60 + s) - 60 * z ≤ 315569519999) :
  cal_ParseInstant.f (strOfNums (tB y m d h mi s z)) = some (num y m d * 86400 + (h * 3600 + mi * 60 + s) - 60 * z, 0, 0) := by
 obtain ⟨v1, v2, v3, v4, v5, v6⟩ := vld_out hv
 have hdm := dim_bd y m v3 v4
 have n0 : noT (T1 y m d) := noT_app (noT_app (noT_D4 ⟨v1, v2⟩) (noT_D2 (by omega))) (noT_D2 (by omega))
 have l0 : (T1 y m d).length ≤ 10 := by simp [T1, D4, D2]
 have x0 : decide (0 ≤ Lib.indexByte (strOfNums (T1 y m d)).data.toList 45) = false := by
  refine dash1 fun c hc => ⟨(n0 c hc).1, (n0 c hc).2.1, ?_⟩
  simp [T1, D4, D2] at hc; omega
 have p0 : cal_ParseDate.f (strOfNums (T1 y m d)) = some (y, m, d, 0, 0) := parse_TL hv 1 (by omega) (fun q => absurd q (by omega))
 have c8 : (ckB h mi s).length ≤ 8 := by simp [ckB, D2]
 have znb : ∀ g a b : Int, 0 ≤ a ∧ a ≤ 23 → 0 ≤ b ∧ b ≤ 59 → ∀ c ∈ znB g a b, 48 ≤ c ∧ c ≤ 58 := by intro g a b ha hb c hc; simp [znB, D2] at hc; omega
 have znl : ∀ g a b : Int, (znB g a b).length ≤ 5 := by intro g a b; simp [znB, D2]
 unfold tB zB
 by_cases a0 : z = 0
 ·subst a0
  rw [if_pos rfl]
  exact read_C n0 l0 x0 p0 hv (okB hh hm hs) c8 (.inl rfl) (by simp) (by simp) (clockB hh hm hs) (by omega) (by decide +kernel) (by omega) (by omega)
 rw [if_neg a0]
 by_cases a1 : z < 0
 ·rw [if_pos a1]
  have hz' := zoneB (a := -z / 60) (b := -z % 60) (g := 45) (by omega) (by omega) (.inr ⟨rfl, by omega⟩)
  rw [show zv 45 (-z / 60) (-z % 60) = z by unfold zv; rw [if_neg (by omega)]; omega] at hz'
  exact read_C n0 l0 x0 p0 hv (okB hh hm hs) c8 (.inr (.inr rfl)) (znb _ _ _ (by omega) (by omega)) (znl _ _ _) (clockB hh hm hs) (by omega) hz' (by omega) (by omega)
 ·rw [if_neg a1]
  have hz' := zoneB (a := z / 60) (b := z % 60) (g := 43) (by omega) (by omega) (.inl rfl)
  rw [show zv 43 (z / 60) (z % 60) = z by unfold zv; rw [if_pos rfl]; omega] at hz'
  exact read_C n0 l0 x0 p0 hv (okB hh hm hs) c8 (.inr (.inl rfl)) (znb _ _ _ (by omega) (by omega)) (znl _ _ _) (clockB hh hm hs) (by omega) hz' (by omega) (by omega)
end
/-- what PrintInstant prints -/
theorem print_eq (k : Nat) (hk : 30009 ≤ k) (a z : Int) (ha : 0 ≤ a ∧ a ≤ 315569519999) (hz : -1439 ≤ z ∧ z ≤ 1439) {x : Int} (hx : a + 60 * z = x) (h0 : 0 ≤ x) (h1 : x ≤ 315569519999) {y m d : Int} (hv : vldB y m d = true) (hn : num y m d = x / 86400) :
  cal_PrintInstant.f k a z = some (strOfNums (tE y m d (x % 86400 / 3600) (x % 86400 / 60 % 60) (x % 86400 % 60) z), 0) := by
 obtain ⟨k, rfl⟩ : ∃ q, k = q + 3 := ⟨k - 3, by omega⟩
 obtain ⟨v1, v2, v3, v4, v5, v6⟩ := vld_out hv
 have vd := dim_bd y m v3 v4
 unfold cal_PrintInstant.f
 rw [if_neg (by omega), decide_eq_false (show ¬ a > 315569519999 by omega), cal_PrintInstant.j0]
 simp only [Bool.false_eq_true, if_false]
 rw [if_neg (by omega), if_neg (by omega), w64 (x := 60 * z) (by omega) (by omega), w64 (x := a + 60 * z) (by omega) (by omega), hx, if_neg (by omega), decide_eq_false (show ¬ x > 315569519999 by omega), cal_PrintInstant.j1]
 have q1 := date_eq (Y := y) (M := m) (D := d) (k + 1) (by omega) hv
 rw [hn] at q1
 have q3 := cprint_eq (k + 1) (by omega) y m d 0
 have q4 : pd y m d (num y m d) 0 = (P y 4 ++ (⟨#[45]⟩ : ByteArray) ++ P m 2 ++ (⟨#[45]⟩ : ByteArray) ++ P d 2, 0) := by
  unfold pd; rw [if_neg (by omega), if_pos rfl]
 rw [hv, if_pos rfl, q4, P4_eq ⟨v1, v2⟩, P2_eq (n := m) (by omega), P2_eq (n := d) (by omega), show (⟨#[45]⟩ : ByteArray) = strOfNums [45] from rfl] at q3
 simp only [nums_app] at q3
 have zz : (strOfNums (D4 y ++ [45] ++ D2 m ++ [45] ++ D2 d)).size = 10 := by rw [strOfNums_size]; simp [D4, D2]
 have pp : ∀ n : Int, 0 ≤ n ∧ n ≤ 99 → cal_pad.f (k + 1) n 2 = some (strOfNums (D2 n)) := by
  intro n h
  rw [pad_eq (k + 1) n 2 (by omega) (by omega) (by omega) (by omega) (by omega), P2_eq h]
 have p2 : ∀ n : Int, (strOfNums (D2 n)).size = 2 := by intro n; rw [strOfNums_size]; simp [D2]
 simp only [Bool.false_eq_true, if_false]
 rw [td x _ h0, w64 (x := x / 86400) (by omega) (by omega), q1]
 simp only [Option.bind_some, q3]
 rw [tm x _ h0, td _ _ (by omega), w64 (x := x % 86400 / 3600) (by omega) (by omega), td _ _ (by omega), w64 (x := x % 86400 / 60) (by omega) (by omega), tm _ 60 (by omega), tm _ 60 (by omega)]
 rw [pp (x % 86400 / 3600) (by omega), pp (x % 86400 / 60 % 60) (by omega), pp (x % 86400 % 60) (by omega)]
 simp only [Option.bind_some, zz, p2]
 repeat rw [if_pos (by omega)]
 have s1 : (⟨#[84]⟩ : ByteArray) = strOfNums [84] := rfl
 have s2 : (⟨#[58]⟩ : ByteArray) = strOfNums [58] := rfl
 have s3 : (⟨#[90]⟩ : ByteArray) = strOfNums [90] := rfl
 have s4 : (⟨#[45]⟩ : ByteArray) = strOfNums [45] := rfl
 have s5 : (⟨#[43]⟩ : ByteArray) = strOfNums [43] := rfl
 by_cases a0 : z = 0
 ·simp only [if_pos a0]
  repeat rw [if_pos (by omega)]
  rw [s1, s2, s3]
  simp only [nums_app]
  simp [tE, zE, a0, T0, ckE, D4, D2]
 simp only [if_neg a0]
 by_cases a1 : z < 0
 ·simp only [if_pos a1]
  rw [w64 (x := -z) (by omega) (by omega), td (-z) 60 (by omega), tm (-z) 60 (by omega), w64 (x := -z / 60) (by omega) (by omega)]
  rw [pp (-z / 60) (by omega), pp (-z % 60) (by omega)]
  simp only [Option.bind_some, p2]
  repeat rw [if_pos (by omega)]
  rw [s1, s2, s4]
  simp only [nums_app]
  simp [tE, zE, a0, a1, T0, ckE, znE, D4, D2]
 simp only [if_neg a1]
 rw [td z 60 (by omega), tm z 60 (by omega), w64 (x := z / 60) (by omega) (by omega)]
 rw [pp (z / 60) (by omega), pp (z % 60) (by omega)]
 simp only [Option.bind_some, p2]
 repeat rw [if_pos (by omega)]
 rw [s1, s2, s5]
 simp only [nums_app]
 simp [tE, zE, a0, a1, T0, ckE, znE, D4, D2]
/-- within with bounds of any sign -/
theorem within_neg (x lo hi : Int) (hx : -9223372036854775808 ≤ x ∧ x ≤ 9223372036854775807) (h0 : -1000000000000 ≤ lo) (h1 : lo ≤ hi) (h2 : hi ≤ 1000000000000) : ∃ v, larderlaw03_within.f x lo hi = some v ∧ lo ≤ v ∧ v ≤ hi := by
 unfold larderlaw03_within.f
 rw [w64 (x := hi - lo) (by omega) (by omega), w64 (x := hi - lo + 1) (by omega) (by omega)]
 have key : ∀ z : Int, 0 ≤ z → ∃ v, some (wrap64 (lo + Int.tmod z (hi - lo + 1))) = some v ∧ lo ≤ v ∧ v ≤ hi := by
  intro z hz
  have a := Int.emod_nonneg z (show hi - lo + 1 ≠ 0 by omega)
  have b := Int.emod_lt_of_pos z (show 0 < hi - lo + 1 by omega)
  refine ⟨_, rfl, ?_⟩
  rw [tm _ _ hz, w64 (by omega) (by omega)]
  omega
 by_cases hn : x < 0
 ·rw [if_pos hn, if_neg (by omega), w64 (x := x + 1) (by omega) (by omega), w64 (x := -(x + 1)) (by omega) (by omega)]
  exact key _ (by omega)
 ·rw [if_neg hn, if_neg (by omega)]
  exact key _ (by omega)
theorem tE_len (y m d h mi s z : Int) : (tE y m d h mi s z).length = if z = 0 then 20 else 25 := by
 have := zE_len z
 by_cases a : z = 0
 ·rw [if_pos a] at this ⊢; simp [tE, T0, ckE, D4, D2, this]
 ·rw [if_neg a] at this ⊢; simp [tE, T0, ckE, D4, D2, this]
theorem tE_19 (y m d h mi s z : Int) : (tE y m d h mi s z).take 19 = T0 y m d ++ (84 :: ckE h mi s) := by
 simp [tE, T0, ckE, D4, D2]
theorem tE_cut (y m d h mi s z : Int) : ((tE y m d h mi s z).take 4 ++ ((tE y m d h mi s z).take 7).drop 5 ++ ((tE y m d h mi s z).take 13).drop 8 ++ ((tE y m d h mi s z).take 16).drop 14 ++ ((tE y m d h mi s z).take 19).drop 17) = T1 y m d ++ (84 :: ckB h mi s) := by
 simp [tE, T0, T1, ckE, ckB, D4, D2]
theorem tE_zcut (y m d h mi s z : Int) (hz : z ≠ 0) : ((tE y m d h mi s z).take 22).drop 19 ++ (tE y m d h mi s z).drop 23 = zB z := by
 by_cases a : z < 0
 ·simp [tE, T0, ckE, D4, D2, zE, zB, hz, a, znE, znB]
 ·simp [tE, T0, ckE, D4, D2, zE, zB, hz, a, znE, znB]
set_option maxHeartbeats 2000000 in
theorem calClock_pure (a0 a1 : Int) (h0 : -9223372036854775808 ≤ a0 ∧ a0 ≤ 9223372036854775807) (h1 : -9223372036854775808 ≤ a1 ∧ a1 ≤ 9223372036854775807) : ∃ k, larderlaw03_CalClock.f k a0 a1 = some true := by
 refine ⟨30020, ?_⟩
 unfold larderlaw03_CalClock.f
 obtain ⟨a, e1, t1, t2⟩ := within_neg a0 86400 315569433599 h0 (by omega) (by omega) (by omega)
 obtain ⟨z, e2, z1, z2⟩ := within_neg a1 (-1439) 1439 h1 (by omega) (by omega) (by omega)
 rw [e1]
 simp only [Option.bind_some]
 rw [e2]
 simp only [Option.bind_some]
 rw [w64 (x := 60 * z) (by omega) (by omega), w64 (x := a + 60 * z) (by omega) (by omega)]
 obtain ⟨x, hx⟩ : ∃ x, a + 60 * z = x := ⟨_, rfl⟩
 have x0 : 0 ≤ x := by omega
 have x1 : x ≤ 315569519999 := by omega
 obtain ⟨y, m, d, hv, hn⟩ := day_ex (x / 86400) (by omega) (by omega)
 rw [print_eq 30020 (by omega) a z (by omega) (by omega) hx x0 x1 hv hn]
 simp only [Option.bind_some]
 rw [hx, print_eq 30020 (by omega) x 0 (by omega) (by omega) (by omega) x0 x1 hv hn]
 simp only [Option.bind_some]
 obtain ⟨h, hh⟩ : ∃ h, x % 86400 / 3600 = h := ⟨_, rfl⟩
 obtain ⟨mi, hmi⟩ : ∃ h, x % 86400 / 60 % 60 = h := ⟨_, rfl⟩
 obtain ⟨s, hs⟩ : ∃ h, x % 86400 % 60 = h := ⟨_, rfl⟩
 have bh : 0 ≤ h ∧ h ≤ 23 := by omega
 have bm : 0 ≤ mi ∧ mi ≤ 59 := by omega
 have bs : 0 ≤ s ∧ s ≤ 59 := by omega
 have tot : num y m d * 86400 + (h * 3600 + mi * 60 + s) = x := by omega
 rw [hh, hmi, hs]
 have rE := read_E hv bh bm bs (z := z) (by omega) (by rw [tot]; omega)
 have rU := read_E hv bh bm bs (z := 0) (by omega) (by rw [tot]; omega)
 have rB := read_B hv bh bm bs (z := z) (by omega) (by rw [tot]; omega)
 rw [tot] at rE rU rB
 have lE := tE_len y m d h mi s z
 have lU := tE_len y m d h mi s 0
 rw [if_pos rfl] at lU
 have c19 : (strOfNums (tE y m d h mi s z)).extract 0 19 = (strOfNums (tE y m d h mi s 0)).extract 0 19 := by
  rw [ext_nums', ext_nums', tE_19, tE_19]
 have hj : ∀ k, larderlaw03_CalClock.j0 (k + 1) a z (strOfNums (tE y m d h mi s z)) (strOfNums (tE y m d h mi s 0)) false = some true := by
  intro k
  rw [larderlaw03_CalClock.j0, if_neg (by decide), rE, rU]
  simp only [Option.bind_some]
  have l20 : 20 ≤ (tE y m d h mi s z).length := by rw [lE]; split <;> omega
  have l25 : (tE y m d h mi s z).length ≤ 25 := by rw [lE]; split <;> omega
  have sz : (strOfNums (tE y m d h mi s z)).size = (tE y m d h mi s z).length := strOfNums_size _
  have ez : ∀ p q : Nat, ((strOfNums (tE y m d h mi s z)).extract p q).size ≤ 25 := by
   intro p q; rw [ByteArray.size_extract]; omega
  have q1 := ez 0 4
  have q2 := ez 5 7
  have q3 := ez 8 13
  have q4 := ez 14 16
  have q5 := ez 17 19
  have q6 := ez 19 22
  have q7 := ez 23 (strOfNums (tE y m d h mi s z)).size
  repeat rw [if_pos (by omega)]
  by_cases hz : z = 0
  ·rw [if_pos hz]
   repeat rw [if_pos (by omega)]
   have e : strOfNums (tE y m d h mi s z) = strOfNums (tE y m d h mi s z) := rfl
   rw [ext_nums', ext_nums', ext_nums', ext_nums', ext_nums', show (⟨#[90]⟩ : ByteArray) = strOfNums [90] from rfl]
   simp only [nums_app, List.drop_zero]
   have ec := tE_cut y m d h mi s z
   simp only [List.append_assoc] at ec ⊢
   have eb : tB y m d h mi s z = T1 y m d ++ (84 :: (ckB h mi s ++ [90])) := by simp [tB, zB, hz]
   have el : (tE y m d h mi s z).take 4 ++ (((tE y m d h mi s z).take 7).drop 5 ++ (((tE y m d h mi s z).take 13).drop 8 ++ (((tE y m d h mi s z).take 16).drop 14 ++ (((tE y m d h mi s z).take 19).drop 17 ++ [90])))) = tB y m d h mi s z := by
    rw [eb]
    have := congrArg (· ++ [(90 : Int)]) ec
    simpa [List.append_assoc] using this
   rw [el, rB]
   simp only [Option.bind_some]
   rw [w64 (x := 60 * z) (by omega) (by omega), w64 (x := a + 60 * z) (by omega) (by omega), if_pos trivial, if_pos trivial, if_pos trivial, if_pos (by omega), if_pos (by omega)]
   exact congrArg some (by rw [beq_iff_eq]; omega)
  ·rw [if_neg hz] at lE ⊢
   repeat rw [if_pos (by omega)]
   rw [sz, ext_nums', ext_nums', ext_nums', ext_nums', ext_nums', ext_nums', ext_nums', List.take_of_length_le (Nat.le_refl (tE y m d h mi s z).length)]
   simp only [nums_app, List.drop_zero]
   have ec := tE_cut y m d h mi s z
   have ezz := tE_zcut y m d h mi s z hz
   simp only [List.append_assoc] at ec ezz ⊢
   have eb : tB y m d h mi s z = T1 y m d ++ (84 :: (ckB h mi s ++ zB z)) := rfl
   have el : (tE y m d h mi s z).take 4 ++ (((tE y m d h mi s z).take 7).drop 5 ++ (((tE y m d h mi s z).take 13).drop 8 ++ (((tE y m d h mi s z).take 16).drop 14 ++ (((tE y m d h mi s z).take 19).drop 17 ++ (((tE y m d h mi s z).take 22).drop 19 ++ (tE y m d h mi s z).drop 23))))) = tB y m d h mi s z := by
    rw [eb, ← ezz]
    have := congrArg (· ++ (((tE y m d h mi s z).take 22).drop 19 ++ (tE y m d h mi s z).drop 23)) ec
    simpa [List.append_assoc] using this
   rw [el, rB]
   simp only [Option.bind_some]
   rw [w64 (x := 60 * z) (by omega) (by omega), w64 (x := a + 60 * z) (by omega) (by omega), if_pos trivial, if_pos trivial, if_pos trivial, if_pos (by omega), if_pos (by omega)]
   exact congrArg some (by rw [beq_iff_eq]; omega)
 rw [if_pos trivial, if_pos trivial]
 have sE : (strOfNums (tE y m d h mi s z)).size = (tE y m d h mi s z).length := strOfNums_size _
 have sU : (strOfNums (tE y m d h mi s 0)).size = 20 := by rw [strOfNums_size, lU]
 by_cases hz : z = 0
 ·rw [if_pos hz] at lE
  rw [if_pos (by omega), if_neg (by rw [sE, lE, hz]; decide), if_pos (by omega), if_pos (by omega), if_pos (by omega), if_pos (by omega), c19]
  rw [show (((strOfNums (tE y m d h mi s 0)).extract 0 19).toList != ((strOfNums (tE y m d h mi s 0)).extract 0 19).toList) = false by simp]
  exact hj _
 ·rw [if_neg hz] at lE
  have hb : (z == 0) = false := beq_eq_false_iff_ne.2 hz
  rw [if_neg (by omega), if_pos (by omega), if_neg (by rw [sE, lE, hb]; decide), if_pos (by omega), if_pos (by omega), if_pos (by omega), if_pos (by omega), c19]
  rw [show (((strOfNums (tE y m d h mi s 0)).extract 0 19).toList != ((strOfNums (tE y m d h mi s 0)).extract 0 19).toList) = false by simp]
  exact hj _
end Go.Proofs.YtiklakkkgmilnaaDoor.CalP
