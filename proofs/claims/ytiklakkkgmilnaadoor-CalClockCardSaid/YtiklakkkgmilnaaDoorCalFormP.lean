/- The six texts of a day, byte by byte; which shape each has, and the numbers that are read from it. -/
import Derived.Test.YtiklakkkgmilnaaDoorCalDateB
import Derived.Test.YtiklakkkgmilnaaDoorCalPadP
import Derived.Test.YtiklakkkgmilnaaDoorCalMW
set_option linter.unusedVariables false
set_option linter.unusedSimpArgs false
namespace Go.Proofs.YtiklakkkgmilnaaDoor.CalP
open Go.RowKit Go.IntWalk Go.Proofs.YtiklakkkgmilnaaDoorW.PrintWords Go.Proofs.YtiklakkkgmilnaaDoor.Ext Go.Proofs.YtiklakkkgmilnaaDoor.PCal Go.Proofs.YtiklakkkgmilnaaDoor.GC

/-- a list of bytes -/
def okL (l : List Int) : Prop := ∀ c ∈ l, 0 ≤ c ∧ c < 256
theorem okL_app {a b : List Int} (ha : okL a) (hb : okL b) : okL (a ++ b) := fun c h => (List.mem_append.1 h).elim (ha c) (hb c)
theorem nums_app (a b : List Int) : strOfNums a ++ strOfNums b = strOfNums (a ++ b) := by
  apply ByteArray.ext
  apply Array.ext'
  rw [ByteArray.data_append, Array.toList_append, strOfNums_data, strOfNums_data, strOfNums_data, List.map_append]
theorem bt_nums {l : List Int} (h : okL l) (i : Nat) : bt (strOfNums l) (i : Int) = l.getD i 0 := by
  unfold bt
  by_cases c : i < l.length
  · have c1 : ((i : Int)).toNat < (strOfNums l).size := by rw [strOfNums_size]; exact c
    rw [dif_pos c1]
    have e1 : (strOfNums l)[((i : Int)).toNat] = UInt8.ofNat (l[i]).toNat := by
      show (strOfNums l).data[((i : Int)).toNat] = _
      rw [← Array.getElem_toList]
      simp only [strOfNums_data, List.getElem_map, Int.toNat_natCast]
    have b := h _ (List.getElem_mem c)
    rw [e1, List.getD_eq_getElem?_getD, List.getElem?_eq_getElem c]
    simp only [Option.getD_some]
    rw [UInt8.toNat_ofNat']
    omega
  · have c1 : ¬ ((i : Int)).toNat < (strOfNums l).size := by rw [strOfNums_size]; exact c
    rw [dif_neg c1, List.getD_eq_getElem?_getD, List.getElem?_eq_none (by omega)]; rfl
def D1 (n : Int) : List Int := [48 + n]
def D2 (n : Int) : List Int := [48 + n / 10, 48 + n % 10]
def D3 (n : Int) : List Int := [48 + n / 100, 48 + n / 10 % 10, 48 + n % 10]
def D4 (n : Int) : List Int := [48 + n / 1000, 48 + n / 100 % 10, 48 + n / 10 % 10, 48 + n % 10]
theorem okL_D1 {n : Int} (h : 0 ≤ n ∧ n ≤ 9) : okL (D1 n) := by intro c hc; simp [D1] at hc; omega
theorem okL_D2 {n : Int} (h : 0 ≤ n ∧ n ≤ 99) : okL (D2 n) := by intro c hc; simp [D2] at hc; omega
theorem okL_D3 {n : Int} (h : 0 ≤ n ∧ n ≤ 999) : okL (D3 n) := by intro c hc; simp [D3] at hc; omega
theorem okL_D4 {n : Int} (h : 0 ≤ n ∧ n ≤ 9999) : okL (D4 n) := by intro c hc; simp [D4] at hc; omega
theorem okL_one {c : Int} (h : 0 ≤ c ∧ c < 256) : okL [c] := by intro x hx; simp at hx; omega
theorem padS_zero (f : Nat) (d : Int) (hd : d ≤ 0) : padS f 0 d = (⟨#[]⟩ : ByteArray) := by
  cases f with
  | zero => rfl
  | succ f => rw [padS, if_neg (by omega)]
theorem padS_step (f : Nat) (n d : Int) (h : n > 0 ∨ d > 0) : padS (f + 1) n d = padS f (n / 10) (d - 1) ++ dg n := by rw [padS, if_pos h]
theorem P1_eq {n : Int} (h : 0 ≤ n ∧ n ≤ 9) : P n 1 = strOfNums (D1 n) := by
  unfold P
  rw [padS_step 19 n 1 (by omega), show n / 10 = 0 by omega, padS_zero 19 _ (by omega), nil_app]
  unfold dg D1; rw [show n % 10 = n by omega]
theorem P2_eq {n : Int} (h : 0 ≤ n ∧ n ≤ 99) : P n 2 = strOfNums (D2 n) := by
  unfold P
  rw [padS_step 19 n 2 (by omega), padS_step 18 (n / 10) _ (by omega), show n / 10 / 10 = 0 by omega, padS_zero 18 _ (by omega), nil_app]
  unfold dg D2; rw [nums_app, show n / 10 % 10 = n / 10 by omega]; rfl
theorem P3_eq {n : Int} (h : 0 ≤ n ∧ n ≤ 999) : P n 3 = strOfNums (D3 n) := by
  unfold P
  rw [padS_step 19 n 3 (by omega), padS_step 18 (n / 10) _ (by omega), padS_step 17 (n / 10 / 10) _ (by omega), show n / 10 / 10 / 10 = 0 by omega, padS_zero 17 _ (by omega), nil_app]
  unfold dg D3; rw [nums_app, nums_app, show n / 10 / 10 % 10 = n / 100 by omega]; rfl
theorem P4_eq {n : Int} (h : 0 ≤ n ∧ n ≤ 9999) : P n 4 = strOfNums (D4 n) := by
  unfold P
  rw [padS_step 19 n 4 (by omega), padS_step 18 (n / 10) _ (by omega), padS_step 17 (n / 10 / 10) _ (by omega), padS_step 16 (n / 10 / 10 / 10) _ (by omega), show n / 10 / 10 / 10 / 10 = 0 by omega, padS_zero 16 _ (by omega), nil_app]
  unfold dg D4; rw [nums_app, nums_app, nums_app, show n / 10 / 10 / 10 % 10 = n / 1000 by omega, show n / 10 / 10 % 10 = n / 100 % 10 by omega]; rfl
/-- the six texts: year y, month m, day d; n-th of the year; week year a, week w, weekday x -/
def TL (y m d n a w x : Int) (f : Nat) : List Int :=
  if f = 0 then D4 y ++ [45] ++ D2 m ++ [45] ++ D2 d
  else if f = 1 then D4 y ++ D2 m ++ D2 d
  else if f = 2 then D4 y ++ [45] ++ D3 n
  else if f = 3 then D4 y ++ D3 n
  else if f = 4 then D4 a ++ [45, 87] ++ D2 w ++ [45] ++ D1 x
  else D4 a ++ [87] ++ D2 w ++ D1 x
/-- of the shapes it is the f-th that a text has -/
theorem fit_full {s h : ByteArray} (h1 : h.size ≤ s.size) (h2 : ∀ j : Nat, j < h.size → CalP.mt (bt s j) (bt h j) = true) : fit s h = h.size := by
  have key : ∀ (m i : Nat), i + m = h.size → fitN s h m i = h.size := by
    intro m
    induction m with
    | zero => intro i hi; show i = h.size; omega
    | succ m ih => intro i hi; rw [fitN, if_pos ⟨by omega, h2 i (by omega)⟩]; exact ih (i + 1) (by omega)
  exact key h.size 0 (by omega)
theorem fit_not {s h : ByteArray} (i : Nat) (hi : i < h.size) (h2 : CalP.mt (bt s i) (bt h i) = false) : ¬ fit s h = h.size := by
  intro e
  have := (fit_le s h).2.2 i (by omega)
  rw [h2] at this; cases this
theorem shp_hit {s h : ByteArray} {L : List ByteArray} {i : Nat} {b : Int} (h1 : fit s h = h.size) (h2 : s.size = h.size) : shp s (h :: L) i b = ((i : Int), 0) := by
  rw [shp, if_pos ⟨by omega, h1⟩]
theorem shp_miss {s h : ByteArray} {L : List ByteArray} {i : Nat} {b : Int} (h1 : s.size ≠ h.size ∨ ¬ fit s h = h.size) : shp s (h :: L) i b = shp s L (i + 1) (mx b (fit s h)) := by
  rw [shp, if_neg]
  rintro ⟨a, c⟩
  rcases h1 with h1 | h1
  · omega
  · exact h1 c
/-- do all the bytes agree with a shape? -/
def mtL : List Int → List Int → Bool
  | [], [] => true
  | a :: l, b :: k => CalP.mt a b && mtL l k
  | _, _ => false
theorem mtL_get : ∀ {l k : List Int}, mtL l k = true → l.length = k.length ∧ ∀ j, j < k.length → CalP.mt (l.getD j 0) (k.getD j 0) = true
  | [], [], _ => ⟨rfl, fun j h => absurd h (Nat.not_lt_zero _)⟩
  | a :: l, b :: k, h => by
    simp only [mtL, Bool.and_eq_true] at h
    obtain ⟨e, f⟩ := mtL_get h.2
    refine ⟨by simp [e], fun j hj => ?_⟩
    cases j with
    | zero => exact h.1
    | succ j => exact f j (by simpa using hj)
  | [], _ :: _, h => by simp [mtL] at h
  | _ :: _, [], h => by simp [mtL] at h
theorem fit_mtL {l k : List Int} (hl : okL l) (hk : okL k) (h : mtL l k = true) : fit (strOfNums l) (strOfNums k) = (strOfNums k).size ∧ (strOfNums l).size = (strOfNums k).size := by
  obtain ⟨e, f⟩ := mtL_get h
  have es : (strOfNums l).size = (strOfNums k).size := by rw [strOfNums_size, strOfNums_size, e]
  refine ⟨fit_full (by omega) fun j hj => ?_, es⟩
  rw [bt_nums hl, bt_nums hk]
  exact f j (by rw [strOfNums_size] at hj; exact hj)
theorem miss_at {l k : List Int} (hl : okL l) (hk : okL k) (i : Nat) (hi : i < k.length) (h : CalP.mt (l.getD i 0) (k.getD i 0) = false) : ¬ fit (strOfNums l) (strOfNums k) = (strOfNums k).size :=
  fit_not i (by rw [strOfNums_size]; exact hi) (by rw [bt_nums hl, bt_nums hk]; exact h)
theorem miss_len {l k : List Int} (h : l.length ≠ k.length) : (strOfNums l).size ≠ (strOfNums k).size := by rw [strOfNums_size, strOfNums_size]; exact h
def K0 : List Int := [100, 100, 100, 100, 45, 100, 100, 45, 100, 100]
def K1 : List Int := [100, 100, 100, 100, 100, 100, 100, 100]
def K2 : List Int := [100, 100, 100, 100, 45, 100, 100, 100]
def K3 : List Int := [100, 100, 100, 100, 100, 100, 100]
def K4 : List Int := [100, 100, 100, 100, 45, 87, 100, 100, 45, 100]
def K5 : List Int := [100, 100, 100, 100, 87, 100, 100, 100]
theorem SH_K : SH = [strOfNums K0, strOfNums K1, strOfNums K2, strOfNums K3, strOfNums K4, strOfNums K5] := rfl
theorem okK0 : okL K0 := by intro c hc; simp [K0] at hc; omega
theorem okK1 : okL K1 := by intro c hc; simp [K1] at hc; omega
theorem okK2 : okL K2 := by intro c hc; simp [K2] at hc; omega
theorem okK3 : okL K3 := by intro c hc; simp [K3] at hc; omega
theorem okK4 : okL K4 := by intro c hc; simp [K4] at hc; omega
theorem okK5 : okL K5 := by intro c hc; simp [K5] at hc; omega
theorem parse_of {s : ByteArray} {f : Nat} {r : T5} (h1 : s.size ≤ 64) (h2 : shp s SH 0 0 = ((f : Int), 0)) (h3 : dateR s f = r) : cal_ParseDate.f s = some r := by
  unfold cal_ParseDate.f
  rw [if_neg (by omega), h2, if_neg (by simp)]
  exact congrArg some h3
section
variable {y m d n a w x : Int}
theorem ok_f0 (hy : 0 ≤ y ∧ y ≤ 9999) (hm : 0 ≤ m ∧ m ≤ 99) (hd : 0 ≤ d ∧ d ≤ 99) : okL (D4 y ++ [45] ++ D2 m ++ [45] ++ D2 d) :=
  okL_app (okL_app (okL_app (okL_app (okL_D4 hy) (okL_one (by omega))) (okL_D2 hm)) (okL_one (by omega))) (okL_D2 hd)
theorem shp_f0 (hy : 0 ≤ y ∧ y ≤ 9999) (hm : 0 ≤ m ∧ m ≤ 99) (hd : 0 ≤ d ∧ d ≤ 99) : shp (strOfNums (D4 y ++ [45] ++ D2 m ++ [45] ++ D2 d)) SH 0 0 = (((0 : Nat) : Int), 0) := by
  have ok := ok_f0 hy hm hd
  obtain ⟨a, b⟩ := fit_mtL ok okK0 (by simp [mtL, K0, CalP.mt, D4, D2]; omega)
  rw [SH_K]; exact shp_hit a b
theorem ok_f1 (hy : 0 ≤ y ∧ y ≤ 9999) (hm : 0 ≤ m ∧ m ≤ 99) (hd : 0 ≤ d ∧ d ≤ 99) : okL (D4 y ++ D2 m ++ D2 d) := okL_app (okL_app (okL_D4 hy) (okL_D2 hm)) (okL_D2 hd)
theorem shp_f1 (hy : 0 ≤ y ∧ y ≤ 9999) (hm : 0 ≤ m ∧ m ≤ 99) (hd : 0 ≤ d ∧ d ≤ 99) : shp (strOfNums (D4 y ++ D2 m ++ D2 d)) SH 0 0 = (((1 : Nat) : Int), 0) := by
  have ok := ok_f1 hy hm hd
  obtain ⟨a, b⟩ := fit_mtL ok okK1 (by simp [mtL, K1, CalP.mt, D4, D2]; omega)
  rw [SH_K, shp_miss (.inl (miss_len (by simp [D4, D2, K0])))]; exact shp_hit a b
theorem ok_f2 (hy : 0 ≤ y ∧ y ≤ 9999) (hn : 0 ≤ n ∧ n ≤ 999) : okL (D4 y ++ [45] ++ D3 n) := okL_app (okL_app (okL_D4 hy) (okL_one (by omega))) (okL_D3 hn)
theorem shp_f2 (hy : 0 ≤ y ∧ y ≤ 9999) (hn : 0 ≤ n ∧ n ≤ 999) : shp (strOfNums (D4 y ++ [45] ++ D3 n)) SH 0 0 = (((2 : Nat) : Int), 0) := by
  have ok := ok_f2 hy hn
  obtain ⟨a, b⟩ := fit_mtL ok okK2 (by simp [mtL, K2, CalP.mt, D4, D3]; omega)
  rw [SH_K, shp_miss (.inl (miss_len (by simp [D4, D3, K0]))), shp_miss (.inr (miss_at ok okK1 4 (by decide) (by simp [CalP.mt, D4, D3, K1])))]; exact shp_hit a b
theorem ok_f3 (hy : 0 ≤ y ∧ y ≤ 9999) (hn : 0 ≤ n ∧ n ≤ 999) : okL (D4 y ++ D3 n) := okL_app (okL_D4 hy) (okL_D3 hn)
theorem shp_f3 (hy : 0 ≤ y ∧ y ≤ 9999) (hn : 0 ≤ n ∧ n ≤ 999) : shp (strOfNums (D4 y ++ D3 n)) SH 0 0 = (((3 : Nat) : Int), 0) := by
  have ok := ok_f3 hy hn
  obtain ⟨a, b⟩ := fit_mtL ok okK3 (by simp [mtL, K3, CalP.mt, D4, D3]; omega)
  rw [SH_K, shp_miss (.inl (miss_len (by simp [D4, D3, K0]))), shp_miss (.inl (miss_len (by simp [D4, D3, K1]))), shp_miss (.inl (miss_len (by simp [D4, D3, K2])))]; exact shp_hit a b
theorem ok_f4 (hy : 0 ≤ a ∧ a ≤ 9999) (hm : 0 ≤ w ∧ w ≤ 99) (hd : 0 ≤ x ∧ x ≤ 9) : okL (D4 a ++ [45, 87] ++ D2 w ++ [45] ++ D1 x) :=
  okL_app (okL_app (okL_app (okL_app (okL_D4 hy) (by intro c hc; simp at hc; omega)) (okL_D2 hm)) (okL_one (by omega))) (okL_D1 hd)
theorem shp_f4 (hy : 0 ≤ a ∧ a ≤ 9999) (hm : 0 ≤ w ∧ w ≤ 99) (hd : 0 ≤ x ∧ x ≤ 9) : shp (strOfNums (D4 a ++ [45, 87] ++ D2 w ++ [45] ++ D1 x)) SH 0 0 = (((4 : Nat) : Int), 0) := by
  have ok := ok_f4 hy hm hd
  obtain ⟨a', b⟩ := fit_mtL ok okK4 (by simp [mtL, K4, CalP.mt, D4, D2, D1]; omega)
  rw [SH_K, shp_miss (.inr (miss_at ok okK0 5 (by decide) (by simp [CalP.mt, D4, D2, D1, K0]))), shp_miss (.inl (miss_len (by simp [D4, D2, D1, K1]))), shp_miss (.inl (miss_len (by simp [D4, D2, D1, K2]))), shp_miss (.inl (miss_len (by simp [D4, D2, D1, K3])))]
  exact shp_hit a' b
theorem ok_f5 (hy : 0 ≤ a ∧ a ≤ 9999) (hm : 0 ≤ w ∧ w ≤ 99) (hd : 0 ≤ x ∧ x ≤ 9) : okL (D4 a ++ [87] ++ D2 w ++ D1 x) :=
  okL_app (okL_app (okL_app (okL_D4 hy) (okL_one (by omega))) (okL_D2 hm)) (okL_D1 hd)
theorem shp_f5 (hy : 0 ≤ a ∧ a ≤ 9999) (hm : 0 ≤ w ∧ w ≤ 99) (hd : 0 ≤ x ∧ x ≤ 9) : shp (strOfNums (D4 a ++ [87] ++ D2 w ++ D1 x)) SH 0 0 = (((5 : Nat) : Int), 0) := by
  have ok := ok_f5 hy hm hd
  obtain ⟨a', b⟩ := fit_mtL ok okK5 (by simp [mtL, K5, CalP.mt, D4, D2, D1]; omega)
  rw [SH_K, shp_miss (.inl (miss_len (by simp [D4, D2, D1, K0]))), shp_miss (.inr (miss_at ok okK1 4 (by decide) (by simp [CalP.mt, D4, D2, D1, K1]))), shp_miss (.inr (miss_at ok okK2 4 (by decide) (by simp [CalP.mt, D4, D2, D1, K2]))), shp_miss (.inl (miss_len (by simp [D4, D2, D1, K3]))), shp_miss (.inl (miss_len (by simp [D4, D2, D1, K4])))]
  exact shp_hit a' b
end
/-- the week's year, the week and the day of the week make the day again -/
theorem wk_back {y n : Int} (h0 : 0 ≤ y) (h1 : y ≤ 9999) (a : beg y ≤ n) (b : n < beg (y + 1)) :
    fst_ (wkY y n) + 7 * (wkW y n - 1) + wd n = n ∧ 1 ≤ wkW y n ∧ wkW y n ≤ wks (wkY y n) := by
  obtain ⟨t1, t2, t3, t4, t5, t6⟩ := wkY_in h0 h1 a b
  have hs := (wks_ref (wkY y n) t3).2
  unfold wkW
  have e1 : fst_ (wkY y n) = beg (wkY y n) + 3 - wd (beg (wkY y n) + 3) := rfl
  have e2 : fst_ (wkY y n + 1) = beg (wkY y n + 1) + 3 - wd (beg (wkY y n + 1) + 3) := rfl
  rw [e2, e1] at hs
  rw [e1]
  generalize beg (wkY y n) = p at *
  generalize beg (wkY y n + 1) = q at *
  generalize wks (wkY y n) = ww at *
  unfold thu wd at *
  omega
/-- each text of a day is read as that day -/
theorem parse_TL {y m d : Int} (hv : vldB y m d = true) (f : Nat) (hf : f < 6) (hw : 4 ≤ f → 0 ≤ wkY y (num y m d) ∧ wkY y (num y m d) ≤ 9999) :
    cal_ParseDate.f (strOfNums (TL y m d (num y m d - beg y + 1) (wkY y (num y m d)) (wkW y (num y m d)) (wd (num y m d) + 1) f)) = some (y, m, d, 0, 0) := by
  obtain ⟨v1, v2, v3, v4, v5, v6⟩ := vld_out hv
  obtain ⟨n1, n2, n3, n4⟩ := num_bd hv
  have hdm := dim_bd y m v3 v4
  have hb := beg_succ y v1
  have hl := lpN_01 y
  obtain ⟨k1, k2, k3⟩ := wk_back v1 v2 n1 n2
  have kb := wkW_bd v1 v2 n1 n2
  have wb := wd_bd (num y m d)
  have hof : cal_Of.f 30000 (num y m d) = some (y, m, d, 0) := cof_in 30000 (Nat.le_refl _) hv
  match f, hf with
  | 0, _ =>
    have ok := ok_f0 (y := y) (m := m) (d := d) ⟨v1, v2⟩ (by omega) (by omega)
    refine parse_of (f := 0) (by rw [strOfNums_size]; simp [TL, D4, D2]) (shp_f0 (y := y) (m := m) (d := d) ⟨v1, v2⟩ (by omega) (by omega)) ?_
    show ymR (nmv (strOfNums (D4 y ++ [45] ++ D2 m ++ [45] ++ D2 d)) 0 4) (nmv (strOfNums (D4 y ++ [45] ++ D2 m ++ [45] ++ D2 d)) 5 2) (nmv (strOfNums (D4 y ++ [45] ++ D2 m ++ [45] ++ D2 d)) 8 2) 5 8 = _
    have e0 : nmv (strOfNums (D4 y ++ [45] ++ D2 m ++ [45] ++ D2 d)) 0 4 = y := by simp only [nmv, bt_nums ok]; simp [D4, D2]; omega
    have e1 : nmv (strOfNums (D4 y ++ [45] ++ D2 m ++ [45] ++ D2 d)) 5 2 = m := by simp only [nmv, bt_nums ok]; simp [D4, D2]; omega
    have e2 : nmv (strOfNums (D4 y ++ [45] ++ D2 m ++ [45] ++ D2 d)) 8 2 = d := by simp only [nmv, bt_nums ok]; simp [D4, D2]; omega
    rw [e0, e1, e2]; unfold ymR; rw [if_pos ⟨v3, v4⟩, if_pos ⟨v5, v6⟩]
  | 1, _ =>
    have ok := ok_f1 (y := y) (m := m) (d := d) ⟨v1, v2⟩ (by omega) (by omega)
    refine parse_of (f := 1) (by rw [strOfNums_size]; simp [TL, D4, D2]) (shp_f1 (y := y) (m := m) (d := d) ⟨v1, v2⟩ (by omega) (by omega)) ?_
    show ymR (nmv (strOfNums (D4 y ++ D2 m ++ D2 d)) 0 4) (nmv (strOfNums (D4 y ++ D2 m ++ D2 d)) 4 2) (nmv (strOfNums (D4 y ++ D2 m ++ D2 d)) 6 2) 4 6 = _
    have e0 : nmv (strOfNums (D4 y ++ D2 m ++ D2 d)) 0 4 = y := by simp only [nmv, bt_nums ok]; simp [D4, D2]; omega
    have e1 : nmv (strOfNums (D4 y ++ D2 m ++ D2 d)) 4 2 = m := by simp only [nmv, bt_nums ok]; simp [D4, D2]; omega
    have e2 : nmv (strOfNums (D4 y ++ D2 m ++ D2 d)) 6 2 = d := by simp only [nmv, bt_nums ok]; simp [D4, D2]; omega
    rw [e0, e1, e2]; unfold ymR; rw [if_pos ⟨v3, v4⟩, if_pos ⟨v5, v6⟩]
  | 2, _ =>
    have ok := ok_f2 (y := y) (n := num y m d - beg y + 1) ⟨v1, v2⟩ (by omega)
    refine parse_of (f := 2) (by rw [strOfNums_size]; simp [TL, D4, D3]) (shp_f2 (y := y) (n := num y m d - beg y + 1) ⟨v1, v2⟩ (by omega)) ?_
    show ydR (nmv (strOfNums (D4 y ++ [45] ++ D3 (num y m d - beg y + 1))) 0 4) (nmv (strOfNums (D4 y ++ [45] ++ D3 (num y m d - beg y + 1))) 5 3) 5 = _
    have e0 : nmv (strOfNums (D4 y ++ [45] ++ D3 (num y m d - beg y + 1))) 0 4 = y := by simp only [nmv, bt_nums ok]; simp [D4, D3]; omega
    have e1 : nmv (strOfNums (D4 y ++ [45] ++ D3 (num y m d - beg y + 1))) 5 3 = num y m d - beg y + 1 := by simp only [nmv, bt_nums ok]; simp [D4, D3]; omega
    rw [e0, e1]; unfold ydR; rw [if_pos (by omega), show beg y + (num y m d - beg y + 1) - 1 = num y m d by omega, hof]; rfl
  | 3, _ =>
    have ok := ok_f3 (y := y) (n := num y m d - beg y + 1) ⟨v1, v2⟩ (by omega)
    refine parse_of (f := 3) (by rw [strOfNums_size]; simp [TL, D4, D3]) (shp_f3 (y := y) (n := num y m d - beg y + 1) ⟨v1, v2⟩ (by omega)) ?_
    show ydR (nmv (strOfNums (D4 y ++ D3 (num y m d - beg y + 1))) 0 4) (nmv (strOfNums (D4 y ++ D3 (num y m d - beg y + 1))) 4 3) 4 = _
    have e0 : nmv (strOfNums (D4 y ++ D3 (num y m d - beg y + 1))) 0 4 = y := by simp only [nmv, bt_nums ok]; simp [D4, D3]; omega
    have e1 : nmv (strOfNums (D4 y ++ D3 (num y m d - beg y + 1))) 4 3 = num y m d - beg y + 1 := by simp only [nmv, bt_nums ok]; simp [D4, D3]; omega
    rw [e0, e1]; unfold ydR; rw [if_pos (by omega), show beg y + (num y m d - beg y + 1) - 1 = num y m d by omega, hof]; rfl
  | 4, _ =>
    have hw := hw (by omega)
    generalize ha : wkY y (num y m d) = a at *
    generalize hwk : wkW y (num y m d) = w at *
    have ok := ok_f4 (a := a) (w := w) (x := wd (num y m d) + 1) hw (by omega) (by omega)
    refine parse_of (f := 4) (by rw [strOfNums_size]; simp [TL, D4, D2, D1]) (shp_f4 (a := a) (w := w) (x := wd (num y m d) + 1) hw (by omega) (by omega)) ?_
    show ywR (nmv (strOfNums (D4 a ++ [45, 87] ++ D2 w ++ [45] ++ D1 (wd (num y m d) + 1))) 0 4) (nmv (strOfNums (D4 a ++ [45, 87] ++ D2 w ++ [45] ++ D1 (wd (num y m d) + 1))) 6 2) (nmv (strOfNums (D4 a ++ [45, 87] ++ D2 w ++ [45] ++ D1 (wd (num y m d) + 1))) 9 1) 6 9 = _
    have e0 : nmv (strOfNums (D4 a ++ [45, 87] ++ D2 w ++ [45] ++ D1 (wd (num y m d) + 1))) 0 4 = a := by simp only [nmv, bt_nums ok]; simp [D4, D2, D1]; omega
    have e1 : nmv (strOfNums (D4 a ++ [45, 87] ++ D2 w ++ [45] ++ D1 (wd (num y m d) + 1))) 6 2 = w := by simp only [nmv, bt_nums ok]; simp [D4, D2, D1]; omega
    have e2 : nmv (strOfNums (D4 a ++ [45, 87] ++ D2 w ++ [45] ++ D1 (wd (num y m d) + 1))) 9 1 = wd (num y m d) + 1 := by simp only [nmv, bt_nums ok]; simp [D4, D2, D1]; omega
    rw [e0, e1, e2]; unfold ywR
    rw [if_pos ⟨k2, k3⟩, if_pos (by omega), fromWeek_eq, if_pos (show fwOk a w (wd (num y m d) + 1) = true from decide_eq_true (by omega))]
    rw [show fst_ a + 7 * (w - 1) + (wd (num y m d) + 1) - 1 = num y m d by omega]
    rw [cof_in 30001 (by omega) hv]; rfl
  | 5, _ =>
    have hw := hw (by omega)
    generalize ha : wkY y (num y m d) = a at *
    generalize hwk : wkW y (num y m d) = w at *
    have ok := ok_f5 (a := a) (w := w) (x := wd (num y m d) + 1) hw (by omega) (by omega)
    refine parse_of (f := 5) (by rw [strOfNums_size]; simp [TL, D4, D2, D1]) (shp_f5 (a := a) (w := w) (x := wd (num y m d) + 1) hw (by omega) (by omega)) ?_
    show ywR (nmv (strOfNums (D4 a ++ [87] ++ D2 w ++ D1 (wd (num y m d) + 1))) 0 4) (nmv (strOfNums (D4 a ++ [87] ++ D2 w ++ D1 (wd (num y m d) + 1))) 5 2) (nmv (strOfNums (D4 a ++ [87] ++ D2 w ++ D1 (wd (num y m d) + 1))) 7 1) 5 7 = _
    have e0 : nmv (strOfNums (D4 a ++ [87] ++ D2 w ++ D1 (wd (num y m d) + 1))) 0 4 = a := by simp only [nmv, bt_nums ok]; simp [D4, D2, D1]; omega
    have e1 : nmv (strOfNums (D4 a ++ [87] ++ D2 w ++ D1 (wd (num y m d) + 1))) 5 2 = w := by simp only [nmv, bt_nums ok]; simp [D4, D2, D1]; omega
    have e2 : nmv (strOfNums (D4 a ++ [87] ++ D2 w ++ D1 (wd (num y m d) + 1))) 7 1 = wd (num y m d) + 1 := by simp only [nmv, bt_nums ok]; simp [D4, D2, D1]; omega
    rw [e0, e1, e2]; unfold ywR
    rw [if_pos ⟨k2, k3⟩, if_pos (by omega), fromWeek_eq, if_pos (show fwOk a w (wd (num y m d) + 1) = true from decide_eq_true (by omega))]
    rw [show fst_ a + 7 * (w - 1) + (wd (num y m d) + 1) - 1 = num y m d by omega]
    rw [cof_in 30001 (by omega) hv]; rfl
end Go.Proofs.YtiklakkkgmilnaaDoor.CalP
