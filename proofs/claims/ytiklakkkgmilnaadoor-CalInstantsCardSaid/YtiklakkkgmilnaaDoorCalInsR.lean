/- The law CalInstants in plain texts: the reference's ParseInstant answers of every text what cal's does. -/
import Derived.Test.YtiklakkkgmilnaaDoorCalInsB
import Derived.Test.YtiklakkkgmilnaaDoorCalReadsP
import Derived.Test.YtiklakkkgmilnaaDoorCalP
import Derived.Test.YtiklakkkgmilnaaDoorGCxf9
set_option linter.unusedVariables false
set_option linter.unusedSimpArgs false
namespace Go.Proofs.YtiklakkkgmilnaaDoor.CalP
open Go.RowKit Go.IntWalk Go.Proofs.YtiklakkkgmilnaaDoorW.PrintWords Go.Proofs.YtiklakkkgmilnaaDoor.Ext Go.Proofs.YtiklakkkgmilnaaDoor.PCal Go.Proofs.YtiklakkkgmilnaaDoor.GC

theorem of_valid {k : Nat} (hk : 30000 ≤ k) {n y m d : Int} (h : cal_Of.f k n = some (y, m, d, 0)) : vldB y m d = true := by
  by_cases c : n < 0 ∨ 3652424 < n
  · rw [cof_out k n c] at h; cases h
  · obtain ⟨Y, M, D, hv, e⟩ := day_ex n (by omega) (by omega)
    subst e
    rw [cof_in k hk hv] at h; cases h; exact hv
theorem fin4_valid {r : Option (Int × Int × Int × Int)} (hr : ∀ y m d : Int, r = some (y, m, d, 0) → vldB y m d = true) (hs : r ≠ none) {y m d p : Int} (h : fin4 r = (y, m, d, 0, p)) : vldB y m d = true := by
  match r, hs with
  | some (a, b, c, e), _ =>
    unfold fin4 at h
    simp only at h
    by_cases z : e = 0
    · subst z
      rw [if_pos rfl] at h
      cases h
      exact hr _ _ _ rfl
    · rw [if_neg z] at h
      simp only [Prod.mk.injEq] at h
      exact absurd h.2.2.2.1 z
theorem ym_valid {y a b p q Y M D r : Int} (hy : 0 ≤ y ∧ y ≤ 9999) (h : ymR y a b p q = (Y, M, D, 0, r)) : vldB Y M D = true := by
  unfold ymR at h
  by_cases c1 : 1 ≤ a ∧ a ≤ 12
  · by_cases c2 : 1 ≤ b ∧ b ≤ dim y a
    · rw [if_pos c1, if_pos c2] at h; cases h; exact vld_mk ⟨hy.1, hy.2, c1.1, c1.2, c2.1, c2.2⟩
    · rw [if_pos c1, if_neg c2] at h; cases h
  · rw [if_neg c1] at h; cases h
theorem yd_valid {y a p Y M D r : Int} (h : ydR y a p = (Y, M, D, 0, r)) : vldB Y M D = true := by
  unfold ydR at h
  split at h
  · refine fin4_valid (fun y m d e => of_valid (Nat.le_refl _) e) ?_ h
    obtain ⟨r, hr⟩ := cof_ex (beg y + a - 1)
    rw [hr 30000 (Nat.le_refl _)]; simp
  · cases h
theorem yw_valid {y a b p q Y M D r : Int} (h : ywR y a b p q = (Y, M, D, 0, r)) : vldB Y M D = true := by
  unfold ywR at h
  split at h
  · split at h
    · obtain ⟨r, hr⟩ := fw_ex y a b
      refine fin4_valid (fun y' m d e => ?_) (by rw [(hr 30001 (Nat.le_refl _)).1]; simp) h
      rw [fromWeek_eq] at e
      split at e
      · exact of_valid (by omega) e
      · cases e
    · cases h
  · cases h
theorem date_valid {s : ByteArray} {Y M D p : Int} (h : cal_ParseDate.f s = some (Y, M, D, 0, p)) : vldB Y M D = true := by
  unfold cal_ParseDate.f at h
  split at h
  · cases h
  split at h
  · cases h
  rename_i c
  obtain ⟨j, hj, e1, e2, e3⟩ := shp_get s SH 0 0 (by omega)
  rw [e1] at h
  simp only [Nat.zero_add, Option.some.injEq] at h
  have hj6 : j < 6 := hj
  match j, hj6 with
  | 0, _ =>
    have hz : fit s ⟨#[100, 100, 100, 100, 45, 100, 100, 45, 100, 100]⟩ = 10 := e3
    have b0 := nmv_bd s 0 4 (dig_of hz 0 4 (by decide) (by decide))
    exact ym_valid (y := nmv s 0 4) (by omega) h
  | 1, _ =>
    have hz : fit s ⟨#[100, 100, 100, 100, 100, 100, 100, 100]⟩ = 8 := e3
    have b0 := nmv_bd s 0 4 (dig_of hz 0 4 (by decide) (by decide))
    exact ym_valid (y := nmv s 0 4) (by omega) h
  | 2, _ => exact yd_valid h
  | 3, _ => exact yd_valid h
  | 4, _ => exact yw_valid h
  | 5, _ => exact yw_valid h
theorem shp_bd (s : ByteArray) : ∀ (L : List ByteArray) (i : Nat) (b : Int), 0 ≤ b → b ≤ s.size → 0 ≤ (shp s L i b).2 ∧ (shp s L i b).2 ≤ s.size := by
  intro L
  induction L with
  | nil => intro i b h0 h1; exact ⟨h0, h1⟩
  | cons h l ih =>
    intro i b h0 h1
    rw [shp]
    have := (fit_le s h).1
    split
    · exact ⟨Int.le_refl _, by show (0 : Int) ≤ s.size; omega⟩
    · exact ih _ _ (by unfold mx; omega) (by unfold mx; omega)
theorem clkR_bd {a b c g : Int} (ha : 0 ≤ a) (hb : 0 ≤ b) (hc : 0 ≤ c) (hg : 0 ≤ g ∧ g ≤ 3) : 0 ≤ (clkR a b c g).1 ∧ (clkR a b c g).1 ≤ 100000 ∧ 0 ≤ (clkR a b c g).2.2 ∧ (clkR a b c g).2.2 ≤ 1000 := by
  unfold clkR
  repeat' split
  all_goals (simp; try omega)
theorem clockF_bd (H : ByteArray) (ext : Bool) (hz : H.size ≤ 100) : 0 ≤ (clockF H ext).1 ∧ (clockF H ext).1 ≤ 100000 ∧ 0 ≤ (clockF H ext).2.2 ∧ (clockF H ext).2.2 ≤ 1000 := by
  have sb := shp_bd H (if ext then CE else CB) 0 0 (by omega) (by omega)
  by_cases hok : (shp H (if ext then CE else CB) 0 0).1 < 0
  · unfold clockF
    rw [if_pos hok]
    exact ⟨by simp, by simp, sb.1, by have := sb.2; simp only; omega⟩
  · have dd : ∀ (h : ByteArray) (a : Nat), fit H h = h.size → a + 2 ≤ h.size → (∀ j, j < a + 2 → a ≤ j → bt h j = 100) → 0 ≤ nmv H a 2 := by
      intro h a hf ha hj
      exact (nmv2_bd H a (dig_of hf a (a + 2) ha hj)).1
    have e : clockF H ext = _ := if_neg hok
    obtain ⟨j, hj, e1, e2, e3⟩ := shp_get H (if ext then CE else CB) 0 0 (by omega)
    simp only [e1, Nat.zero_add] at e
    cases ext
    · have hj3 : j < 3 := hj
      match j, hj3 with
      | 0, _ =>
        have E : clockF H false = clkR (nmv H 0 2) 0 0 2 := e
        rw [E]; exact clkR_bd (dd ⟨#[100, 100]⟩ 0 e3 (by decide) (by decide)) (by omega) (by omega) (by omega)
      | 1, _ =>
        have E : clockF H false = clkR (nmv H 0 2) (nmv H 2 2) 0 2 := e
        rw [E]; exact clkR_bd (dd ⟨#[100, 100, 100, 100]⟩ 0 e3 (by decide) (by decide)) (dd ⟨#[100, 100, 100, 100]⟩ 2 e3 (by decide) (by decide)) (by omega) (by omega)
      | 2, _ =>
        have E : clockF H false = clkR (nmv H 0 2) (nmv H 2 2) (nmv H 4 2) 2 := e
        rw [E]; exact clkR_bd (dd ⟨#[100, 100, 100, 100, 100, 100]⟩ 0 e3 (by decide) (by decide)) (dd ⟨#[100, 100, 100, 100, 100, 100]⟩ 2 e3 (by decide) (by decide)) (dd ⟨#[100, 100, 100, 100, 100, 100]⟩ 4 e3 (by decide) (by decide)) (by omega)
    · have hj3 : j < 3 := hj
      match j, hj3 with
      | 0, _ =>
        have E : clockF H true = clkR (nmv H 0 2) 0 0 3 := e
        rw [E]; exact clkR_bd (dd ⟨#[100, 100]⟩ 0 e3 (by decide) (by decide)) (by omega) (by omega) (by omega)
      | 1, _ =>
        have E : clockF H true = clkR (nmv H 0 2) (nmv H 3 2) 0 3 := e
        rw [E]; exact clkR_bd (dd ⟨#[100, 100, 58, 100, 100]⟩ 0 e3 (by decide) (by decide)) (dd ⟨#[100, 100, 58, 100, 100]⟩ 3 e3 (by decide) (by decide)) (by omega) (by omega)
      | 2, _ =>
        have E : clockF H true = clkR (nmv H 0 2) (nmv H 3 2) (nmv H 6 2) 3 := e
        rw [E]; exact clkR_bd (dd ⟨#[100, 100, 58, 100, 100, 58, 100, 100]⟩ 0 e3 (by decide) (by decide)) (dd ⟨#[100, 100, 58, 100, 100, 58, 100, 100]⟩ 3 e3 (by decide) (by decide)) (dd ⟨#[100, 100, 58, 100, 100, 58, 100, 100]⟩ 6 e3 (by decide) (by decide)) (by omega)
theorem ia_get : ∀ (l cs : List UInt8) (k : Nat), Lib.indexAny l cs = k → ∃ b, l[k]? = some b ∧ cs.contains b = true
  | [], cs, k, h => by rw [Lib.indexAny] at h; omega
  | b :: l, cs, k, h => by
    rw [Lib.indexAny] at h
    cases hb : cs.contains b with
    | true =>
      rw [if_pos hb] at h
      obtain rfl : k = 0 := by omega
      exact ⟨b, rfl, hb⟩
    | false =>
      rw [if_neg (by rw [hb]; simp)] at h
      have ge := Lib.indexAny_ge cs l
      by_cases e : Lib.indexAny l cs = -1
      · rw [e] at h; simp at h
      · have e' : (Lib.indexAny l cs == -1) = false := beq_eq_false_iff_ne.2 e
        rw [e'] at h
        simp only [Bool.false_eq_true, if_false] at h
        obtain ⟨k, rfl⟩ : ∃ q, k = q + 1 := ⟨k - 1, by omega⟩
        obtain ⟨c, h1, h2⟩ := ia_get l cs k (by omega)
        exact ⟨c, by simpa using h1, h2⟩
theorem ib_lt (l : List UInt8) (c : UInt8) (h : l ≠ []) : Lib.indexByte l c < l.length := by
  by_cases q : Lib.indexByte l c < 0
  · omega
  · obtain ⟨o, ho⟩ : ∃ o : Nat, Lib.indexByte l c = o := ⟨(Lib.indexByte l c).toNat, by omega⟩
    have := (Lib.indexByte_some ho).1
    have := (List.getElem?_eq_some_iff.1 this).1
    omega
theorem TC_len (ext : Bool) : (if ext then CE else CB).length ≤ 1000 ∧ (∀ h ∈ (if ext then CE else CB), h.size ≤ 20 ∧ noS h) ∧ 50 + 2 * (if ext then CE else CB).length ≤ 100 := by
  refine ⟨by cases ext <;> decide, ?_, by cases ext <;> decide⟩
  intro h hm
  have hh : h.size ≤ 20 ∧ (∀ i : Nat, i < h.size → bt h i ≠ 115) := by
    revert h
    cases ext <;> decide
  exact hh
theorem RZ_len (ext : Bool) : (RZ ext).length ≤ 1000 ∧ (∀ h ∈ RZ ext, h.size ≤ 20 ∧ noS h) ∧ 50 + 2 * (RZ ext).length ≤ 100 := by
  refine ⟨by cases ext <;> decide, ?_, by cases ext <;> decide⟩
  intro h hm
  have hh : h.size ≤ 20 ∧ (∀ i : Nat, i < h.size → bt h i ≠ 115) := by
    revert h
    cases ext <;> decide
  exact hh
theorem w1c (i : Nat) (h : i ≤ 1000) : wrap64 ((i : Int) + 1) = ((i + 1 : Nat) : Int) := by unfold wrap64; omega
theorem w2c (a b : Int) (h : 0 ≤ a ∧ a ≤ 10000) (hb : 0 ≤ b ∧ b ≤ 10000) : wrap64 (a + b) = a + b := by unfold wrap64; omega
theorem shaped_T (k : Nat) (hk : 100 ≤ k) (s : ByteArray) (ext : Bool) : larderref03_shaped.f k s (if ext then CE else CB) = some (rshp s (if ext then CE else CB) 0 0) :=
  shaped_eq k s _ (TC_len ext).1 (TC_len ext).2.1 (Nat.le_trans (TC_len ext).2.2 hk)
theorem shaped_Z (k : Nat) (hk : 100 ≤ k) (s : ByteArray) (ext : Bool) : larderref03_shaped.f k s (RZ ext) = some (rshp s (RZ ext) 0 0) :=
  shaped_eq k s _ (RZ_len ext).1 (RZ_len ext).2.1 (Nat.le_trans (RZ_len ext).2.2 hk)
/-- where a zone begins there stands one of the three -/
theorem zfirst (R : ByteArray) (q : Nat) (hq : kA R = q) : q < R.size ∧ 1 ≤ (R.extract q R.size).size ∧ (bt (R.extract q R.size) 0 = 90 ∨ bt (R.extract q R.size) 0 = 43 ∨ bt (R.extract q R.size) 0 = 45) := by
  obtain ⟨b, hb1, hb2⟩ := ia_get R.data.toList [90, 43, 45] q hq
  have hql : q < R.size := by
    have := (List.getElem?_eq_some_iff.1 hb1).1
    rw [data_len] at this; exact this
  refine ⟨hql, by rw [ByteArray.size_extract]; omega, ?_⟩
  have q1 : bt (R.extract q R.size) ((0 : Nat) : Int) = bt R ((q + 0 : Nat) : Int) := bt_ext R q R.size 0 (by omega) (Nat.le_refl _)
  have q3 : bt R (q : Int) = (b.toNat : Int) := by
    rw [bt_lt R q hql]
    have := data_at R q hql
    rw [hb1] at this
    rw [Option.some.inj this]
  have q4 : b = 90 ∨ b = 43 ∨ b = 45 := by simpa using hb2
  have q5 : bt (R.extract q R.size) 0 = (b.toNat : Int) := by
    rw [← q3]; exact q1
  rcases q4 with rfl | rfl | rfl
  · exact .inl q5
  · exact .inr (.inl q5)
  · exact .inr (.inr q5)
set_option maxHeartbeats 2000000 in
/-- behind the T, the date being read -/
theorem rinst_j0 (k : Nat) (hk : 1000 ≤ k) (s : ByteArray) (hs : s.size ≤ 64) (i : Nat) (hi : i < s.size) (y m d : Int) (hv : vldB y m d = true) (ext : Bool) (R : ByteArray) (hR : R = s.extract (i + 1) s.size) :
    larderref03_ParseInstant.j0 (k + 1) s i (if kA R < 0 then (s.size : Int) else ((i + 1 : Nat) : Int) + kA R) (if ext then CE else CB) (RZ ext) y m d =
      if (clockF (hrs R) ext).2.1 = false then some (0, 32, (i : Int) + 1 + (clockF (hrs R) ext).2.2)
      else if kA R < 0 then some (0, 33, (s.size : Int))
      else (cal_zone.f 100 (R.extract (kA R).toNat R.size) ext).bind fun z => inst4 s.size ((i : Int) + 1 + kA R) y m d (clockF (hrs R) ext).1 z := by
  have rz : R.size = s.size - (i + 1) := by rw [hR, ByteArray.size_extract]; omega
  have kb := kA_bd R
  -- the place where the zone begins
  obtain ⟨z, hz1, hz2, hze, hH, hk2⟩ : ∃ z : Nat, i + 1 ≤ z ∧ z ≤ s.size ∧ (if kA R < 0 then (s.size : Int) else ((i + 1 : Nat) : Int) + kA R) = (z : Int) ∧ hrs R = s.extract (i + 1) z ∧ ((kA R < 0 ∧ z = s.size) ∨ (0 ≤ kA R ∧ (z : Int) = (i : Int) + 1 + kA R)) := by
    by_cases c : kA R < 0
    · refine ⟨s.size, by omega, by omega, if_pos c, ?_, .inl ⟨c, rfl⟩⟩
      unfold hrs
      rw [if_neg (by omega), hR]
    · obtain ⟨q, hq⟩ : ∃ q : Nat, kA R = q := ⟨(kA R).toNat, by omega⟩
      refine ⟨i + 1 + q, by omega, by omega, by rw [if_neg c]; omega, ?_, .inr ⟨by omega, by omega⟩⟩
      unfold hrs
      rw [if_pos (by omega), hq, Int.toNat_natCast, hR, ext_ext]
  rw [hze, hH]
  have hA := At.mk' s (i + 1) z hz1 hz2
  have hHs : (s.extract (i + 1) z).size ≤ 64 := by rw [ByteArray.size_extract]; omega
  have hSs : (s.extract 0 z).size ≤ 1000 := by rw [ByteArray.size_extract]; omega
  have cbd := clockF_bd (s.extract (i + 1) z) ext (by omega)
  have sbd := shp_bd (s.extract (i + 1) z) (if ext then CE else CB) 0 0 (by omega) (by omega)
  rw [larderref03_ParseInstant.j0, w1c i (by omega), if_pos (by omega), if_pos (by omega), if_pos (by omega), Int.toNat_natCast, Int.toNat_natCast, shaped_T k (by omega)]
  simp only [Option.bind_some]
  generalize hHH : s.extract (i + 1) z = H at *
  rcases rshp_shp H (if ext then CE else CB) 0 0 with ⟨c, e⟩ | ⟨c, e⟩
  case inr =>
    have ec : clockF H ext = (0, false, (shp H (if ext then CE else CB) 0 0).2) := by
      unfold clockF; rw [if_pos (by omega)]
    rw [e, if_pos (by omega), ec, if_pos rfl]
    rw [w2c _ _ (by omega) (by first | omega | (simp only; omega))]
    exact congrArg some (by simp only [Prod.mk.injEq, true_and]; omega)
  have rc := rclock_eq hA hSs ext c k (by omega)
  rw [e, if_neg (by first | omega | (simp only; omega)), if_pos (by omega), rc]
  simp only [Option.bind_some]
  generalize clockF H ext = C at *
  obtain ⟨sec, ok, at_⟩ := C
  simp only at cbd
  cases ok
  · rw [if_neg (show ¬ (rcOf ((i + 1 : Nat) : Int) (sec, false, at_)).2.2 = true by simp [rcOf]), if_pos (show ((sec, false, at_) : T3).2.1 = false from rfl)]
    simp [rcOf]
  · rw [if_pos (show (rcOf ((i + 1 : Nat) : Int) (sec, true, at_)).2.2 = true from rfl), if_neg (show ¬ ((sec, true, at_) : T3).2.1 = false by simp)]
    rcases hk2 with ⟨k1, k2⟩ | ⟨k1, k2⟩
    · rw [if_pos (show (z : Int) = (s.size : Int) by omega), if_pos k1, k2]
    obtain ⟨q, hq⟩ : ∃ q : Nat, kA R = q := ⟨(kA R).toNat, by omega⟩
    have zq : z = i + 1 + q := by omega
    obtain ⟨hql, hZs, hb0⟩ := zfirst R q hq
    have hzl : z < s.size := by omega
    rw [if_neg (show ¬ (z : Int) = (s.size : Int) by omega), if_neg (show ¬ kA R < 0 by omega), hq, Int.toNat_natCast]
    have hZ : R.extract q R.size = s.extract z s.size := by
      subst hR
      rw [ext_ext2 s (i + 1) q _ rfl, zq]
    rw [hZ] at hZs hb0 ⊢
    have hAz := At.tail s z (by omega)
    rw [shaped_Z k (by omega)]
    simp only [Option.bind_some]
    obtain ⟨zr, w1, w2, w3⟩ := zone_rel hAz (by omega) ext hZs hb0 k (by omega)
    rw [w1]
    simp only [Option.bind_some]
    unfold inst4
    rw [if_neg (show ¬ ¬ (-100000 ≤ zr.1 ∧ zr.1 ≤ 100000 ∧ 0 ≤ zr.2.2 ∧ zr.2.2 ≤ 1000) by omega)]
    have nb := num_bd hv
    rcases w3 with ⟨w3, w4⟩ | ⟨w3, w4⟩
    · rw [w3, if_pos (by first | omega | (simp only; omega)), if_pos w4]
      rw [w2c _ _ (by omega) (by first | omega | (simp only; omega))]
      exact congrArg some (by simp only [Prod.mk.injEq, true_and]; omega)
    · rw [if_neg (by omega), w4]
      simp only [Option.bind_some]
      obtain ⟨zm, zo, za⟩ := zr
      simp only at w2 ⊢
      cases zo
      · rw [if_neg (by simp), if_pos rfl]
        exact congrArg some (by
          simp only [Prod.mk.injEq, true_and]
          simp; omega)
      · rw [if_pos rfl, if_neg (by simp), rnumber_eq k y m d (by omega) hv, number_eq y m d hv]
        simp only [Option.bind_some, rcOf]
        rw [w64 (x := num y m d * 86400) (by omega) (by omega), w64 (x := num y m d * 86400 + sec) (by omega) (by omega), w64 (x := num y m d * 86400 + sec - 60 * zm) (by omega) (by omega)]
        by_cases g1 : num y m d * 86400 + sec - 60 * zm < 0
        · rw [if_pos g1, if_pos (.inl g1)]
        · by_cases g2 : num y m d * 86400 + sec - 60 * zm > 315569519999
          · rw [if_neg g1, if_pos g2, if_pos (.inr g2)]
          · rw [if_neg g1, if_neg g2, if_neg (by omega)]
theorem rinst_eq (k : Nat) (hk : 40001 ≤ k) (s : ByteArray) : larderref03_ParseInstant.f k s = cal_ParseInstant.f s := by
  unfold larderref03_ParseInstant.f cal_ParseInstant.f
  by_cases h : s.size > 64
  · rw [if_pos (by omega), if_pos h]
  rw [if_neg (by omega), if_neg h]
  have f1 := find_eq k s ⟨#[84]⟩ (by omega) (by decide) 0 (by omega) (by omega)
  have l1 : Lib.indexAny (s.data.toList.drop 0) (⟨#[84]⟩ : ByteArray).data.toList = iT s := by rw [List.drop_zero]; exact ia_one _ _
  rw [l1] at f1
  have f1' : larderref03_find.f k s 0 ⟨#[84]⟩ = some (if iT s < 0 then (s.size : Int) else (0 : Nat) + iT s) := f1
  rw [f1']
  simp only [Option.bind_some]
  have ib := iT_bd s
  by_cases hi : iT s < 0
  · rw [if_pos hi, if_pos (by omega), if_pos (by omega), Int.toNat_natCast, rparse_eq k (by omega)]
    have ef : s.extract 0 s.size = s := by
      apply ba_ext; rw [ext_tail, List.drop_zero]
    have ef2 : fstT s = s := by unfold fstT; rw [if_neg (by omega)]
    rw [ef, ef2]
    obtain ⟨r, hr⟩ := cparse_some s
    rw [hr]
    simp only [Option.bind_some]
    by_cases he : r.2.2.2.1 = 0
    · rw [if_pos he, if_pos trivial, if_neg (by simpa using he), if_pos hi]
    · rw [if_neg he, if_pos he]
  · obtain ⟨i, hin⟩ : ∃ i : Nat, iT s = i := ⟨(iT s).toNat, by omega⟩
    have hil : i < s.size := by omega
    rw [if_neg hi, hin, show ((0 : Nat) : Int) + (i : Int) = (i : Int) by omega, if_pos (by omega), if_pos (by omega), Int.toNat_natCast, rparse_eq k (by omega)]
    have ef : fstT s = s.extract 0 i := by unfold fstT; rw [if_pos (by omega), hin, Int.toNat_natCast]
    have er : rstT s = s.extract (i + 1) s.size := by unfold rstT; rw [hin, Int.toNat_natCast]
    have efs : (s.extract 0 i).size = i := by rw [ByteArray.size_extract]; omega
    rw [ef]
    obtain ⟨r, hr⟩ := cparse_some (s.extract 0 i)
    rw [hr]
    simp only [Option.bind_some]
    obtain ⟨y, m, d, e, p⟩ := r
    simp only
    by_cases he : e = 0
    · subst he
      have hv := date_valid hr
      rw [if_pos rfl, if_neg (by omega), if_neg (by simp), if_neg (by omega), if_neg (show ¬ odd8 (rstT s) = true by simp [odd8])]
      have f2 := find_eq k (s.extract 0 i) ⟨#[45]⟩ (by omega) (by decide) 0 (by omega) (by omega)
      have l2 : Lib.indexAny ((s.extract 0 i).data.toList.drop 0) (⟨#[45]⟩ : ByteArray).data.toList = Lib.indexByte (s.extract 0 i).data.toList 45 := by rw [List.drop_zero]; exact ia_one _ _
      rw [l2] at f2
      have f2' : larderref03_find.f k (s.extract 0 i) 0 ⟨#[45]⟩ = some (if Lib.indexByte (s.extract 0 i).data.toList 45 < 0 then (((s.extract 0 i).size : Nat) : Int) else (0 : Nat) + Lib.indexByte (s.extract 0 i).data.toList 45) := f2
      have f3 := find_eq k s ⟨#[90, 43, 45]⟩ (by omega) (by decide) (i + 1) (by omega) (by omega)
      have l3 : Lib.indexAny (s.data.toList.drop (i + 1)) (⟨#[90, 43, 45]⟩ : ByteArray).data.toList = kA (rstT s) := by rw [er, ← ext_tail]; rfl
      rw [l3] at f3
      rw [f2', w1c i (by omega), f3]
      simp only [Option.bind_some]
      obtain ⟨k, rfl⟩ : ∃ q, k = q + 1 := ⟨k - 1, by omega⟩
      have hx : extT s = decide (0 ≤ Lib.indexByte (s.extract 0 i).data.toList 45) := by unfold extT; rw [ef]
      have main := rinst_j0 k (by omega) s (by omega) i hil y m d hv (extT s) (rstT s) er
      have cb := clockF_bd (hrs (rstT s)) (extT s) (by
        unfold hrs
        split
        · rw [ByteArray.size_extract, er, ByteArray.size_extract]; omega
        · rw [er, ByteArray.size_extract]; omega)
      unfold inst3
      rw [if_neg (show ¬ ¬ (0 ≤ (clockF (hrs (rstT s)) (extT s)).1 ∧ (clockF (hrs (rstT s)) (extT s)).1 ≤ 100000 ∧ 0 ≤ (clockF (hrs (rstT s)) (extT s)).2.2 ∧ (clockF (hrs (rstT s)) (extT s)).2.2 ≤ 1000) by omega), ef, efs, ← main]
      have jj : ∀ (b : Bool), larderref03_ParseInstant.j0 (k + 1) s i (if kA (rstT s) < 0 then (s.size : Int) else ((i + 1 : Nat) : Int) + kA (rstT s)) (if b then CE else CB) (RZ b) y m d = if b = true then larderref03_ParseInstant.j0 (k + 1) s i (if kA (rstT s) < 0 then (s.size : Int) else ((i + 1 : Nat) : Int) + kA (rstT s)) CE (RZ true) y m d else larderref03_ParseInstant.j0 (k + 1) s i (if kA (rstT s) < 0 then (s.size : Int) else ((i + 1 : Nat) : Int) + kA (rstT s)) CB (RZ false) y m d := by
        intro b
        cases b
        · simp only [Bool.false_eq_true, if_false]
        · simp only [if_true]
      rw [jj, hx]
      by_cases q : Lib.indexByte (s.extract 0 i).data.toList 45 < 0
      · rw [if_pos q, if_neg (show ¬ (i : Int) < i by omega), if_neg (show ¬ decide (0 ≤ Lib.indexByte (s.extract 0 i).data.toList 45) = true by rw [decide_eq_true_eq]; omega)]
        rfl
      · have hne : (s.extract 0 i).data.toList ≠ [] := by
          intro z; rw [z] at q; exact q (by decide)
        have := ib_lt (s.extract 0 i).data.toList 45 hne
        rw [data_len, efs] at this
        rw [if_neg q, if_pos (show ((0 : Nat) : Int) + Lib.indexByte (s.extract 0 i).data.toList 45 < i by omega), if_pos (show decide (0 ≤ Lib.indexByte (s.extract 0 i).data.toList 45) = true by rw [decide_eq_true_eq]; omega)]
        rfl
    · rw [if_neg he, if_pos he]
theorem cinst_some (s : ByteArray) : ∃ r, cal_ParseInstant.f s = some r := by
  unfold cal_ParseInstant.f
  by_cases h : s.size > 64
  · exact ⟨_, if_pos h⟩
  rw [if_neg h]
  obtain ⟨⟨y, m, d, e, p⟩, hr⟩ := cparse_some (fstT s)
  rw [hr]
  simp only [Option.bind_some]
  by_cases he : e ≠ 0
  · exact ⟨_, if_pos he⟩
  rw [if_neg he]
  obtain rfl : e = 0 := by omega
  have hv := date_valid hr
  by_cases hi : iT s < 0
  · exact ⟨_, if_pos hi⟩
  rw [if_neg hi, if_neg (show ¬ odd8 (rstT s) = true by simp [odd8])]
  have rs : (rstT s).size ≤ 64 := by unfold rstT; rw [ByteArray.size_extract]; omega
  have cb := clockF_bd (hrs (rstT s)) (extT s) (by
    unfold hrs
    split
    · rw [ByteArray.size_extract]; omega
    · omega)
  unfold inst3
  rw [if_neg (by omega)]
  split
  · exact ⟨_, rfl⟩
  split
  · exact ⟨_, rfl⟩
  rename_i c1 c2
  obtain ⟨q, hq⟩ : ∃ q : Nat, kA (rstT s) = q := ⟨(kA (rstT s)).toNat, by omega⟩
  obtain ⟨hql, hZs, hb0⟩ := zfirst (rstT s) q hq
  obtain ⟨zr, w1, w2, w3⟩ := zone_rel (At.tail (rstT s) q (by omega)) (by omega) (extT s) hZs hb0 40 (by omega)
  rw [hq, Int.toNat_natCast, w1]
  simp only [Option.bind_some]
  unfold inst4
  rw [if_neg (by omega), number_eq y m d hv]
  split
  · exact ⟨_, rfl⟩
  · simp only [Option.bind_some]
    split <;> exact ⟨_, rfl⟩
theorem calInstants_pure (s : ByteArray) : ∃ k, larderlaw03_CalInstants.f k s = some true := by
  refine ⟨40001, ?_⟩
  unfold larderlaw03_CalInstants.f
  rw [rinst_eq 40001 (Nat.le_refl _) s]
  obtain ⟨r, hr⟩ := cinst_some s
  rw [hr]
  simp
end Go.Proofs.YtiklakkkgmilnaaDoor.CalP
