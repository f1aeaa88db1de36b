-- joined out of the texts CalVA CalWB CalPcP CalFormP CalOrdP CalFormsP CalInsP CalZonP CalAtP CalClkP CalRunP CalCutA CalCutP
import Derived.Test.YtiklakkkgmilnaaDoorCalPA
import Derived.Test.YtiklakkkgmilnaaDoorCalValX
import Derived.Test.YtiklakkkgmilnaaDoorCalWA
import Derived.Test.YtiklakkkgmilnaaDoorGCxf73
import Derived.Test.YtiklakkkgmilnaaDoorCalPadP
import Derived.Test.YtiklakkkgmilnaaDoorGCxf37
import Derived.Test.YtiklakkkgmilnaaDoorCalDateB
import Derived.Test.YtiklakkkgmilnaaDoorCalMW
import Derived.Test.YtiklakkkgmilnaaDoorGCxf29
import Derived.Test.YtiklakkkgmilnaaDoorCalInstX
import Derived.Test.YtiklakkkgmilnaaDoorGCxf19
import Derived.Test.YtiklakkkgmilnaaDoorGCxf14
import Derived.Test.YtiklakkkgmilnaaDoorGCxf13
import Derived.Test.YtiklakkkgmilnaaDoorCalParseX
import Derived.Test.YtiklakkkgmilnaaDoorCalSpanX
import Derived.Test.YtiklakkkgmilnaaDoorGCxf12
namespace Go.Proofs.YtiklakkkgmilnaaDoor.CalP
open Go.RowKit Go.Proofs.YtiklakkkgmilnaaDoorW.PrintWords Go.Proofs.YtiklakkkgmilnaaDoor.Ext Go.Proofs.YtiklakkkgmilnaaDoor.PCal Go.Proofs.YtiklakkkgmilnaaDoor.GC Go.IntWalk

theorem valid_eq (y m d : Int) : cal_Valid.f y m d = some (vldB y m d) := rfl
end Go.Proofs.YtiklakkkgmilnaaDoor.CalP
namespace Go.Proofs.YtiklakkkgmilnaaDoor.CalP
open Go.RowKit Go.Proofs.YtiklakkkgmilnaaDoorW.PrintWords Go.Proofs.YtiklakkkgmilnaaDoor.Ext Go.Proofs.YtiklakkkgmilnaaDoor.PCal Go.Proofs.YtiklakkkgmilnaaDoor.GC

theorem weekOf_eq (y m d : Int) : cal_WeekOf.f y m d = some (if vldB y m d = true then (wkY y (num y m d), wkW y (num y m d), wd (num y m d) + 1, 0) else (0, 0, 0, 30)) := by
  unfold cal_WeekOf.f
  rw [valid_eq]
  simp only [Option.bind_some]
  cases h : vldB y m d with
  | false => rw [if_neg (by simp), if_neg (by simp)]
  | true =>
    obtain ⟨h1, h2, _, _, _, _⟩ := vld_out h
    obtain ⟨n1, n2, n3, n4⟩ := num_bd h
    have hi := wkY_in h1 h2 n1 n2
    have hW := wkW_bd h1 h2 n1 n2
    have ht := thu_bd (num y m d)
    have hw := wd_bd (num y m d)
    rw [if_pos rfl, if_pos rfl, number_eq y m d h]
    simp only [Option.bind_some]
    rw [weekday_eq _ (by omega) (by omega), begin_eq y (by omega) (by omega)]
    simp only [Option.bind_some]
    rw [w64 (x := num y m d - wd (num y m d)) (by omega) (by omega), w64 (x := num y m d - wd (num y m d) + 3) (by omega) (by omega)]
    rw [show num y m d - wd (num y m d) + 3 = thu (num y m d) from rfl, w64 (x := y - 1) (by omega) (by omega), w64 (x := y + 1) (by omega) (by omega), w64 (x := wd (num y m d) + 1) (by omega) (by omega)]
    have go : ∀ Y : Int, wkY y (num y m d) = Y → wrap64 (wrap64 (Int.tdiv (wrap64 (thu (num y m d) - beg Y)) 7) + 1) = wkW y (num y m d) := by
      rintro Y rfl
      have hb := beg_in (wkY y (num y m d)) (by omega) (by omega)
      unfold wkW at *
      rw [w64 (x := thu (num y m d) - beg (wkY y (num y m d))) (by omega) (by omega), td _ _ (by omega), w64 (x := (thu (num y m d) - beg (wkY y (num y m d))) / 7) (by omega) (by omega), w64 (by omega) (by omega)]
    by_cases c : thu (num y m d) < beg y
    · have hY : wkY y (num y m d) = y - 1 := by unfold wkY; rw [if_pos c]
      rw [if_pos c, begin_eq (y - 1) (by omega) (by omega)]
      simp only [Option.bind_some]
      rw [go (y - 1) hY, hY]
    · rw [if_neg c, begin_eq (y + 1) (by omega) (by omega)]
      simp only [Option.bind_some]
      by_cases e : beg (y + 1) ≤ thu (num y m d)
      · have hY : wkY y (num y m d) = y + 1 := by unfold wkY; rw [if_neg c, if_pos e]
        rw [if_pos e, go (y + 1) hY, hY]
      · have hY : wkY y (num y m d) = y := by unfold wkY; rw [if_neg c, if_neg e]
        rw [if_neg e, go y hY, hY]

end Go.Proofs.YtiklakkkgmilnaaDoor.CalP
namespace Go.Proofs.YtiklakkkgmilnaaDoor.CalP
open Go.RowKit Go.Proofs.YtiklakkkgmilnaaDoorW.PrintWords Go.Proofs.YtiklakkkgmilnaaDoor.Ext Go.Proofs.YtiklakkkgmilnaaDoor.PCal Go.Proofs.YtiklakkkgmilnaaDoor.GC

/-- the text of a day (y, m, d) with number n in a form -/
def pd (y m d n form : Int) : ByteArray × Int :=
  if form < 0 ∨ form > 5 then ((⟨#[]⟩ : ByteArray), 2)
  else if form = 0 then (P y 4 ++ (⟨#[45]⟩ : ByteArray) ++ P m 2 ++ (⟨#[45]⟩ : ByteArray) ++ P d 2, 0)
  else if form = 1 then (P y 4 ++ P m 2 ++ P d 2, 0)
  else if form = 2 then (P y 4 ++ (⟨#[45]⟩ : ByteArray) ++ P (n - beg y + 1) 3, 0)
  else if form = 3 then (P y 4 ++ P (n - beg y + 1) 3, 0)
  else if wkY y n < 0 then ((⟨#[]⟩ : ByteArray), 35)
  else if form = 4 then (P (wkY y n) 4 ++ (⟨#[45, 87]⟩ : ByteArray) ++ P (wkW y n) 2 ++ (⟨#[45]⟩ : ByteArray) ++ P (wd n + 1) 1, 0)
  else (P (wkY y n) 4 ++ (⟨#[87]⟩ : ByteArray) ++ P (wkW y n) 2 ++ P (wd n + 1) 1, 0)
theorem cprint_eq (k : Nat) (hk : 30001 ≤ k) (y m d form : Int) :
    cal_PrintDate.f k y m d form = some (if vldB y m d = true then pd y m d (num y m d) form else ((⟨#[]⟩ : ByteArray), 30)) := by
  unfold cal_PrintDate.f
  rw [weekOf_eq]
  simp only [Option.bind_some]
  obtain ⟨k, rfl⟩ : ∃ q, k = q + 1 := ⟨k - 1, by omega⟩
  cases h : vldB y m d with
  | false => simp
  | true =>
    obtain ⟨h1, h2, h3, h4, h5, h6⟩ := vld_out h
    obtain ⟨n1, n2, n3, n4⟩ := num_bd h
    have hd := dim_bd y m h3 h4
    have hi := wkY_in h1 h2 n1 n2
    have hW := wkW_bd h1 h2 n1 n2
    have hw := wd_bd (num y m d)
    have hb := beg_bd y h1 (by omega)
    simp only [if_true]
    unfold pd
    by_cases f0 : form < 0
    · rw [if_pos f0, if_pos (Or.inl f0)]
      simp [cal_PrintDate.j0]
    rw [if_neg f0]
    by_cases f5 : form > 5
    · rw [decide_eq_true f5, if_pos (Or.inr f5)]
      simp [cal_PrintDate.j0]
    rw [decide_eq_false f5, if_neg (by omega)]
    have e1 := pad_eq k y 4 (by omega) h1 (by omega) (by omega) (by omega)
    have e2 := pad_eq k m 2 (by omega) (by omega) (by omega) (by omega) (by omega)
    have e3 := pad_eq k d 2 (by omega) (by omega) (by omega) (by omega) (by omega)
    have e4 := pad_eq k (num y m d - beg y + 1) 3 (by omega) (by omega) (by omega) (by omega) (by omega)
    have e6 := pad_eq k (wkW y (num y m d)) 2 (by omega) (by omega) (by omega) (by omega) (by omega)
    have e7 := pad_eq k (wd (num y m d) + 1) 1 (by omega) (by omega) (by omega) (by omega) (by omega)
    have z1 := P_size y 4
    have z2 := P_size m 2
    have z3 := P_size d 2
    have z4 := P_size (num y m d - beg y + 1) 3
    have z5 := P_size (wkY y (num y m d)) 4
    have z6 := P_size (wkW y (num y m d)) 2
    have z7 := P_size (wd (num y m d) + 1) 1
    have q1 := number_eq y m d h
    have q2 := begin_eq y (by omega) (by omega)
    have q5 : wrap64 (wrap64 (num y m d - beg y) + 1) = num y m d - beg y + 1 := by rw [w64 (x := num y m d - beg y) (by omega) (by omega), w64 (by omega) (by omega)]
    simp only [cal_PrintDate.j0]
    rw [e1, q1, q2]
    simp only [Option.bind_some, q5, e2, e3, e4, e6, e7, if_false, Bool.false_eq_true]
    by_cases a0 : form = 0
    · simp only [if_pos a0]
      repeat rw [if_pos (by omega)]
      first | done | rfl
    simp only [if_neg a0]
    by_cases a1 : form = 1
    · simp only [if_pos a1]
      repeat rw [if_pos (by omega)]
      first | done | rfl
    simp only [if_neg a1]
    by_cases a2 : form = 2
    · simp only [if_pos a2]
      repeat rw [if_pos (by omega)]
      first | done | rfl
    simp only [if_neg a2]
    by_cases a3 : form = 3
    · simp only [if_pos a3]
      repeat rw [if_pos (by omega)]
      first | done | rfl
    simp only [if_neg a3]
    by_cases a4 : wkY y (num y m d) < 0
    · simp only [if_pos a4]
      first | done | rfl
    simp only [if_neg a4]
    have e5 := pad_eq k (wkY y (num y m d)) 4 (by omega) (by omega) (by omega) (by omega) (by omega)
    simp only [Option.bind_some, e5]
    by_cases a5 : form = 4
    · simp only [if_pos a5]
      repeat rw [if_pos (by omega)]
      first | done | rfl
    simp only [if_neg a5]
    repeat rw [if_pos (by omega)]
    first | done | rfl
end Go.Proofs.YtiklakkkgmilnaaDoor.CalP
set_option linter.unusedVariables false
set_option linter.unusedSimpArgs false
namespace Go.Proofs.YtiklakkkgmilnaaDoor.CalP
open Go.RowKit Go.IntWalk Go.Proofs.YtiklakkkgmilnaaDoorW.PrintWords Go.Proofs.YtiklakkkgmilnaaDoor.Ext Go.Proofs.YtiklakkkgmilnaaDoor.PCal Go.Proofs.YtiklakkkgmilnaaDoor.GC

/-- a list of bytes -/
def okL (l : List Int) : Prop := ∀ c ∈ l, 0 ≤ c ∧ c < 256
theorem okL_app {a b : List Int} (ha : okL a) (hb : okL b) : okL (a ++ b) := fun c h => (List.mem_append.1 h).elim (ha c) (hb c)
theorem nums_app (a b : List Int) : strOfNums a ++ strOfNums b = strOfNums (a ++ b) := by
  apply ByteArray.ext
  apply Array.ext'
  rw [ByteArray.data_append, Array.toList_append, strOfNums_data, strOfNums_data, strOfNums_data, List.map_append]
theorem bt_nums {l : List Int} (h : okL l) (i : Nat) : bt (strOfNums l) (i : Int) = l.getD i 0 := by
  unfold bt
  by_cases c : i < l.length
  · have c1 : ((i : Int)).toNat < (strOfNums l).size := by rw [strOfNums_size]; exact c
    rw [dif_pos c1]
    have e1 : (strOfNums l)[((i : Int)).toNat] = UInt8.ofNat (l[i]).toNat := by
      show (strOfNums l).data[((i : Int)).toNat] = _
      rw [← Array.getElem_toList]
      simp only [strOfNums_data, List.getElem_map, Int.toNat_natCast]
    have b := h _ (List.getElem_mem c)
    rw [e1, List.getD_eq_getElem?_getD, List.getElem?_eq_getElem c]
    simp only [Option.getD_some]
    rw [UInt8.toNat_ofNat']
    omega
  · have c1 : ¬ ((i : Int)).toNat < (strOfNums l).size := by rw [strOfNums_size]; exact c
    rw [dif_neg c1, List.getD_eq_getElem?_getD, List.getElem?_eq_none (by omega)]; rfl
def D1 (n : Int) : List Int := [48 + n]
def D2 (n : Int) : List Int := [48 + n / 10, 48 + n % 10]
def D3 (n : Int) : List Int := [48 + n / 100, 48 + n / 10 % 10, 48 + n % 10]
def D4 (n : Int) : List Int := [48 + n / 1000, 48 + n / 100 % 10, 48 + n / 10 % 10, 48 + n % 10]
theorem okL_D1 {n : Int} (h : 0 ≤ n ∧ n ≤ 9) : okL (D1 n) := by intro c hc; simp [D1] at hc; omega
theorem okL_D2 {n : Int} (h : 0 ≤ n ∧ n ≤ 99) : okL (D2 n) := by intro c hc; simp [D2] at hc; omega
theorem okL_D3 {n : Int} (h : 0 ≤ n ∧ n ≤ 999) : okL (D3 n) := by intro c hc; simp [D3] at hc; omega
theorem okL_D4 {n : Int} (h : 0 ≤ n ∧ n ≤ 9999) : okL (D4 n) := by intro c hc; simp [D4] at hc; omega
theorem okL_one {c : Int} (h : 0 ≤ c ∧ c < 256) : okL [c] := by intro x hx; simp at hx; omega
theorem padS_zero (f : Nat) (d : Int) (hd : d ≤ 0) : padS f 0 d = (⟨#[]⟩ : ByteArray) := by
  cases f with
  | zero => rfl
  | succ f => rw [padS, if_neg (by omega)]
theorem padS_step (f : Nat) (n d : Int) (h : n > 0 ∨ d > 0) : padS (f + 1) n d = padS f (n / 10) (d - 1) ++ dg n := by rw [padS, if_pos h]
theorem P1_eq {n : Int} (h : 0 ≤ n ∧ n ≤ 9) : P n 1 = strOfNums (D1 n) := by
  unfold P
  rw [padS_step 19 n 1 (by omega), show n / 10 = 0 by omega, padS_zero 19 _ (by omega), nil_app]
  unfold dg D1; rw [show n % 10 = n by omega]
theorem P2_eq {n : Int} (h : 0 ≤ n ∧ n ≤ 99) : P n 2 = strOfNums (D2 n) := by
  unfold P
  rw [padS_step 19 n 2 (by omega), padS_step 18 (n / 10) _ (by omega), show n / 10 / 10 = 0 by omega, padS_zero 18 _ (by omega), nil_app]
  unfold dg D2; rw [nums_app, show n / 10 % 10 = n / 10 by omega]; rfl
theorem P3_eq {n : Int} (h : 0 ≤ n ∧ n ≤ 999) : P n 3 = strOfNums (D3 n) := by
  unfold P
  rw [padS_step 19 n 3 (by omega), padS_step 18 (n / 10) _ (by omega), padS_step 17 (n / 10 / 10) _ (by omega), show n / 10 / 10 / 10 = 0 by omega, padS_zero 17 _ (by omega), nil_app]
  unfold dg D3; rw [nums_app, nums_app, show n / 10 / 10 % 10 = n / 100 by omega]; rfl
theorem P4_eq {n : Int} (h : 0 ≤ n ∧ n ≤ 9999) : P n 4 = strOfNums (D4 n) := by
  unfold P
  rw [padS_step 19 n 4 (by omega), padS_step 18 (n / 10) _ (by omega), padS_step 17 (n / 10 / 10) _ (by omega), padS_step 16 (n / 10 / 10 / 10) _ (by omega), show n / 10 / 10 / 10 / 10 = 0 by omega, padS_zero 16 _ (by omega), nil_app]
  unfold dg D4; rw [nums_app, nums_app, nums_app, show n / 10 / 10 / 10 % 10 = n / 1000 by omega, show n / 10 / 10 % 10 = n / 100 % 10 by omega]; rfl
/-- the six texts: year y, month m, day d; n-th of the year; week year a, week w, weekday x -/
def TL (y m d n a w x : Int) (f : Nat) : List Int :=
  if f = 0 then D4 y ++ [45] ++ D2 m ++ [45] ++ D2 d
  else if f = 1 then D4 y ++ D2 m ++ D2 d
  else if f = 2 then D4 y ++ [45] ++ D3 n
  else if f = 3 then D4 y ++ D3 n
  else if f = 4 then D4 a ++ [45, 87] ++ D2 w ++ [45] ++ D1 x
  else D4 a ++ [87] ++ D2 w ++ D1 x
/-- of the shapes it is the f-th that a text has -/
theorem fit_full {s h : ByteArray} (h1 : h.size ≤ s.size) (h2 : ∀ j : Nat, j < h.size → CalP.mt (bt s j) (bt h j) = true) : fit s h = h.size := by
  have key : ∀ (m i : Nat), i + m = h.size → fitN s h m i = h.size := by
    intro m
    induction m with
    | zero => intro i hi; show i = h.size; omega
    | succ m ih => intro i hi; rw [fitN, if_pos ⟨by omega, h2 i (by omega)⟩]; exact ih (i + 1) (by omega)
  exact key h.size 0 (by omega)
theorem fit_not {s h : ByteArray} (i : Nat) (hi : i < h.size) (h2 : CalP.mt (bt s i) (bt h i) = false) : ¬ fit s h = h.size := by
  intro e
  have := (fit_le s h).2.2 i (by omega)
  rw [h2] at this; cases this
theorem shp_hit {s h : ByteArray} {L : List ByteArray} {i : Nat} {b : Int} (h1 : fit s h = h.size) (h2 : s.size = h.size) : shp s (h :: L) i b = ((i : Int), 0) := by
  rw [shp, if_pos ⟨by omega, h1⟩]
theorem shp_miss {s h : ByteArray} {L : List ByteArray} {i : Nat} {b : Int} (h1 : s.size ≠ h.size ∨ ¬ fit s h = h.size) : shp s (h :: L) i b = shp s L (i + 1) (mx b (fit s h)) := by
  rw [shp, if_neg]
  rintro ⟨a, c⟩
  rcases h1 with h1 | h1
  · omega
  · exact h1 c
/-- do all the bytes agree with a shape? -/
def mtL : List Int → List Int → Bool
  | [], [] => true
  | a :: l, b :: k => CalP.mt a b && mtL l k
  | _, _ => false
theorem mtL_get : ∀ {l k : List Int}, mtL l k = true → l.length = k.length ∧ ∀ j, j < k.length → CalP.mt (l.getD j 0) (k.getD j 0) = true
  | [], [], _ => ⟨rfl, fun j h => absurd h (Nat.not_lt_zero _)⟩
  | a :: l, b :: k, h => by
    simp only [mtL, Bool.and_eq_true] at h
    obtain ⟨e, f⟩ := mtL_get h.2
    refine ⟨by simp [e], fun j hj => ?_⟩
    cases j with
    | zero => exact h.1
    | succ j => exact f j (by simpa using hj)
  | [], _ :: _, h => by simp [mtL] at h
  | _ :: _, [], h => by simp [mtL] at h
theorem fit_mtL {l k : List Int} (hl : okL l) (hk : okL k) (h : mtL l k = true) : fit (strOfNums l) (strOfNums k) = (strOfNums k).size ∧ (strOfNums l).size = (strOfNums k).size := by
  obtain ⟨e, f⟩ := mtL_get h
  have es : (strOfNums l).size = (strOfNums k).size := by rw [strOfNums_size, strOfNums_size, e]
  refine ⟨fit_full (by omega) fun j hj => ?_, es⟩
  rw [bt_nums hl, bt_nums hk]
  exact f j (by rw [strOfNums_size] at hj; exact hj)
theorem miss_at {l k : List Int} (hl : okL l) (hk : okL k) (i : Nat) (hi : i < k.length) (h : CalP.mt (l.getD i 0) (k.getD i 0) = false) : ¬ fit (strOfNums l) (strOfNums k) = (strOfNums k).size :=
  fit_not i (by rw [strOfNums_size]; exact hi) (by rw [bt_nums hl, bt_nums hk]; exact h)
theorem miss_len {l k : List Int} (h : l.length ≠ k.length) : (strOfNums l).size ≠ (strOfNums k).size := by rw [strOfNums_size, strOfNums_size]; exact h
def K0 : List Int := [100, 100, 100, 100, 45, 100, 100, 45, 100, 100]
def K1 : List Int := [100, 100, 100, 100, 100, 100, 100, 100]
def K2 : List Int := [100, 100, 100, 100, 45, 100, 100, 100]
def K3 : List Int := [100, 100, 100, 100, 100, 100, 100]
def K4 : List Int := [100, 100, 100, 100, 45, 87, 100, 100, 45, 100]
def K5 : List Int := [100, 100, 100, 100, 87, 100, 100, 100]
theorem SH_K : SH = [strOfNums K0, strOfNums K1, strOfNums K2, strOfNums K3, strOfNums K4, strOfNums K5] := rfl
theorem okK0 : okL K0 := by intro c hc; simp [K0] at hc; omega
theorem okK1 : okL K1 := by intro c hc; simp [K1] at hc; omega
theorem okK2 : okL K2 := by intro c hc; simp [K2] at hc; omega
theorem okK3 : okL K3 := by intro c hc; simp [K3] at hc; omega
theorem okK4 : okL K4 := by intro c hc; simp [K4] at hc; omega
theorem okK5 : okL K5 := by intro c hc; simp [K5] at hc; omega
theorem parse_of {s : ByteArray} {f : Nat} {r : T5} (h1 : s.size ≤ 64) (h2 : shp s SH 0 0 = ((f : Int), 0)) (h3 : dateR s f = r) : cal_ParseDate.f s = some r := by
  unfold cal_ParseDate.f
  rw [if_neg (by omega), h2, if_neg (by simp)]
  exact congrArg some h3
section
variable {y m d n a w x : Int}
theorem ok_f0 (hy : 0 ≤ y ∧ y ≤ 9999) (hm : 0 ≤ m ∧ m ≤ 99) (hd : 0 ≤ d ∧ d ≤ 99) : okL (D4 y ++ [45] ++ D2 m ++ [45] ++ D2 d) :=
  okL_app (okL_app (okL_app (okL_app (okL_D4 hy) (okL_one (by omega))) (okL_D2 hm)) (okL_one (by omega))) (okL_D2 hd)
theorem shp_f0 (hy : 0 ≤ y ∧ y ≤ 9999) (hm : 0 ≤ m ∧ m ≤ 99) (hd : 0 ≤ d ∧ d ≤ 99) : shp (strOfNums (D4 y ++ [45] ++ D2 m ++ [45] ++ D2 d)) SH 0 0 = (((0 : Nat) : Int), 0) := by
  have ok := ok_f0 hy hm hd
  obtain ⟨a, b⟩ := fit_mtL ok okK0 (by simp [mtL, K0, CalP.mt, D4, D2]; omega)
  rw [SH_K]; exact shp_hit a b
theorem ok_f1 (hy : 0 ≤ y ∧ y ≤ 9999) (hm : 0 ≤ m ∧ m ≤ 99) (hd : 0 ≤ d ∧ d ≤ 99) : okL (D4 y ++ D2 m ++ D2 d) := okL_app (okL_app (okL_D4 hy) (okL_D2 hm)) (okL_D2 hd)
theorem shp_f1 (hy : 0 ≤ y ∧ y ≤ 9999) (hm : 0 ≤ m ∧ m ≤ 99) (hd : 0 ≤ d ∧ d ≤ 99) : shp (strOfNums (D4 y ++ D2 m ++ D2 d)) SH 0 0 = (((1 : Nat) : Int), 0) := by
  have ok := ok_f1 hy hm hd
  obtain ⟨a, b⟩ := fit_mtL ok okK1 (by simp [mtL, K1, CalP.mt, D4, D2]; omega)
  rw [SH_K, shp_miss (.inl (miss_len (by simp [D4, D2, K0])))]; exact shp_hit a b
theorem ok_f2 (hy : 0 ≤ y ∧ y ≤ 9999) (hn : 0 ≤ n ∧ n ≤ 999) : okL (D4 y ++ [45] ++ D3 n) := okL_app (okL_app (okL_D4 hy) (okL_one (by omega))) (okL_D3 hn)
theorem shp_f2 (hy : 0 ≤ y ∧ y ≤ 9999) (hn : 0 ≤ n ∧ n ≤ 999) : shp (strOfNums (D4 y ++ [45] ++ D3 n)) SH 0 0 = (((2 : Nat) : Int), 0) := by
  have ok := ok_f2 hy hn
  obtain ⟨a, b⟩ := fit_mtL ok okK2 (by simp [mtL, K2, CalP.mt, D4, D3]; omega)
  rw [SH_K, shp_miss (.inl (miss_len (by simp [D4, D3, K0]))), shp_miss (.inr (miss_at ok okK1 4 (by decide) (by simp [CalP.mt, D4, D3, K1])))]; exact shp_hit a b
theorem ok_f3 (hy : 0 ≤ y ∧ y ≤ 9999) (hn : 0 ≤ n ∧ n ≤ 999) : okL (D4 y ++ D3 n) := okL_app (okL_D4 hy) (okL_D3 hn)
theorem shp_f3 (hy : 0 ≤ y ∧ y ≤ 9999) (hn : 0 ≤ n ∧ n ≤ 999) : shp (strOfNums (D4 y ++ D3 n)) SH 0 0 = (((3 : Nat) : Int), 0) := by
  have ok := ok_f3 hy hn
  obtain ⟨a, b⟩ := fit_mtL ok okK3 (by simp [mtL, K3, CalP.mt, D4, D3]; omega)
  rw [SH_K, shp_miss (.inl (miss_len (by simp [D4, D3, K0]))), shp_miss (.inl (miss_len (by simp [D4, D3, K1]))), shp_miss (.inl (miss_len (by simp [D4, D3, K2])))]; exact shp_hit a b
theorem ok_f4 (hy : 0 ≤ a ∧ a ≤ 9999) (hm : 0 ≤ w ∧ w ≤ 99) (hd : 0 ≤ x ∧ x ≤ 9) : okL (D4 a ++ [45, 87] ++ D2 w ++ [45] ++ D1 x) :=
  okL_app (okL_app (okL_app (okL_app (okL_D4 hy) (by intro c hc; simp at hc; omega)) (okL_D2 hm)) (okL_one (by omega))) (okL_D1 hd)
theorem shp_f4 (hy : 0 ≤ a ∧ a ≤ 9999) (hm : 0 ≤ w ∧ w ≤ 99) (hd : 0 ≤ x ∧ x ≤ 9) : shp (strOfNums (D4 a ++ [45, 87] ++ D2 w ++ [45] ++ D1 x)) SH 0 0 = (((4 : Nat) : Int), 0) := by
  have ok := ok_f4 hy hm hd
  obtain ⟨a', b⟩ := fit_mtL ok okK4 (by simp [mtL, K4, CalP.mt, D4, D2, D1]; omega)
  rw [SH_K, shp_miss (.inr (miss_at ok okK0 5 (by decide) (by simp [CalP.mt, D4, D2, D1, K0]))), shp_miss (.inl (miss_len (by simp [D4, D2, D1, K1]))), shp_miss (.inl (miss_len (by simp [D4, D2, D1, K2]))), shp_miss (.inl (miss_len (by simp [D4, D2, D1, K3])))]
  exact shp_hit a' b
theorem ok_f5 (hy : 0 ≤ a ∧ a ≤ 9999) (hm : 0 ≤ w ∧ w ≤ 99) (hd : 0 ≤ x ∧ x ≤ 9) : okL (D4 a ++ [87] ++ D2 w ++ D1 x) :=
  okL_app (okL_app (okL_app (okL_D4 hy) (okL_one (by omega))) (okL_D2 hm)) (okL_D1 hd)
theorem shp_f5 (hy : 0 ≤ a ∧ a ≤ 9999) (hm : 0 ≤ w ∧ w ≤ 99) (hd : 0 ≤ x ∧ x ≤ 9) : shp (strOfNums (D4 a ++ [87] ++ D2 w ++ D1 x)) SH 0 0 = (((5 : Nat) : Int), 0) := by
  have ok := ok_f5 hy hm hd
  obtain ⟨a', b⟩ := fit_mtL ok okK5 (by simp [mtL, K5, CalP.mt, D4, D2, D1]; omega)
  rw [SH_K, shp_miss (.inl (miss_len (by simp [D4, D2, D1, K0]))), shp_miss (.inr (miss_at ok okK1 4 (by decide) (by simp [CalP.mt, D4, D2, D1, K1]))), shp_miss (.inr (miss_at ok okK2 4 (by decide) (by simp [CalP.mt, D4, D2, D1, K2]))), shp_miss (.inl (miss_len (by simp [D4, D2, D1, K3]))), shp_miss (.inl (miss_len (by simp [D4, D2, D1, K4])))]
  exact shp_hit a' b
end
/-- the week's year, the week and the day of the week make the day again -/
theorem wk_back {y n : Int} (h0 : 0 ≤ y) (h1 : y ≤ 9999) (a : beg y ≤ n) (b : n < beg (y + 1)) :
    fst_ (wkY y n) + 7 * (wkW y n - 1) + wd n = n ∧ 1 ≤ wkW y n ∧ wkW y n ≤ wks (wkY y n) := by
  obtain ⟨t1, t2, t3, t4, t5, t6⟩ := wkY_in h0 h1 a b
  have hs := (wks_ref (wkY y n) t3).2
  unfold wkW
  have e1 : fst_ (wkY y n) = beg (wkY y n) + 3 - wd (beg (wkY y n) + 3) := rfl
  have e2 : fst_ (wkY y n + 1) = beg (wkY y n + 1) + 3 - wd (beg (wkY y n + 1) + 3) := rfl
  rw [e2, e1] at hs
  rw [e1]
  generalize beg (wkY y n) = p at *
  generalize beg (wkY y n + 1) = q at *
  generalize wks (wkY y n) = ww at *
  unfold thu wd at *
  omega
/-- each text of a day is read as that day -/
theorem parse_TL {y m d : Int} (hv : vldB y m d = true) (f : Nat) (hf : f < 6) (hw : 4 ≤ f → 0 ≤ wkY y (num y m d) ∧ wkY y (num y m d) ≤ 9999) :
    cal_ParseDate.f (strOfNums (TL y m d (num y m d - beg y + 1) (wkY y (num y m d)) (wkW y (num y m d)) (wd (num y m d) + 1) f)) = some (y, m, d, 0, 0) := by
  obtain ⟨v1, v2, v3, v4, v5, v6⟩ := vld_out hv
  obtain ⟨n1, n2, n3, n4⟩ := num_bd hv
  have hdm := dim_bd y m v3 v4
  have hb := beg_succ y v1
  have hl := lpN_01 y
  obtain ⟨k1, k2, k3⟩ := wk_back v1 v2 n1 n2
  have kb := wkW_bd v1 v2 n1 n2
  have wb := wd_bd (num y m d)
  have hof : cal_Of.f 30000 (num y m d) = some (y, m, d, 0) := cof_in 30000 (Nat.le_refl _) hv
  match f, hf with
  | 0, _ =>
    have ok := ok_f0 (y := y) (m := m) (d := d) ⟨v1, v2⟩ (by omega) (by omega)
    refine parse_of (f := 0) (by rw [strOfNums_size]; simp [TL, D4, D2]) (shp_f0 (y := y) (m := m) (d := d) ⟨v1, v2⟩ (by omega) (by omega)) ?_
    show ymR (nmv (strOfNums (D4 y ++ [45] ++ D2 m ++ [45] ++ D2 d)) 0 4) (nmv (strOfNums (D4 y ++ [45] ++ D2 m ++ [45] ++ D2 d)) 5 2) (nmv (strOfNums (D4 y ++ [45] ++ D2 m ++ [45] ++ D2 d)) 8 2) 5 8 = _
    have e0 : nmv (strOfNums (D4 y ++ [45] ++ D2 m ++ [45] ++ D2 d)) 0 4 = y := by simp only [nmv, bt_nums ok]; simp [D4, D2]; omega
    have e1 : nmv (strOfNums (D4 y ++ [45] ++ D2 m ++ [45] ++ D2 d)) 5 2 = m := by simp only [nmv, bt_nums ok]; simp [D4, D2]; omega
    have e2 : nmv (strOfNums (D4 y ++ [45] ++ D2 m ++ [45] ++ D2 d)) 8 2 = d := by simp only [nmv, bt_nums ok]; simp [D4, D2]; omega
    rw [e0, e1, e2]; unfold ymR; rw [if_pos ⟨v3, v4⟩, if_pos ⟨v5, v6⟩]
  | 1, _ =>
    have ok := ok_f1 (y := y) (m := m) (d := d) ⟨v1, v2⟩ (by omega) (by omega)
    refine parse_of (f := 1) (by rw [strOfNums_size]; simp [TL, D4, D2]) (shp_f1 (y := y) (m := m) (d := d) ⟨v1, v2⟩ (by omega) (by omega)) ?_
    show ymR (nmv (strOfNums (D4 y ++ D2 m ++ D2 d)) 0 4) (nmv (strOfNums (D4 y ++ D2 m ++ D2 d)) 4 2) (nmv (strOfNums (D4 y ++ D2 m ++ D2 d)) 6 2) 4 6 = _
    have e0 : nmv (strOfNums (D4 y ++ D2 m ++ D2 d)) 0 4 = y := by simp only [nmv, bt_nums ok]; simp [D4, D2]; omega
    have e1 : nmv (strOfNums (D4 y ++ D2 m ++ D2 d)) 4 2 = m := by simp only [nmv, bt_nums ok]; simp [D4, D2]; omega
    have e2 : nmv (strOfNums (D4 y ++ D2 m ++ D2 d)) 6 2 = d := by simp only [nmv, bt_nums ok]; simp [D4, D2]; omega
    rw [e0, e1, e2]; unfold ymR; rw [if_pos ⟨v3, v4⟩, if_pos ⟨v5, v6⟩]
  | 2, _ =>
    have ok := ok_f2 (y := y) (n := num y m d - beg y + 1) ⟨v1, v2⟩ (by omega)
    refine parse_of (f := 2) (by rw [strOfNums_size]; simp [TL, D4, D3]) (shp_f2 (y := y) (n := num y m d - beg y + 1) ⟨v1, v2⟩ (by omega)) ?_
    show ydR (nmv (strOfNums (D4 y ++ [45] ++ D3 (num y m d - beg y + 1))) 0 4) (nmv (strOfNums (D4 y ++ [45] ++ D3 (num y m d - beg y + 1))) 5 3) 5 = _
    have e0 : nmv (strOfNums (D4 y ++ [45] ++ D3 (num y m d - beg y + 1))) 0 4 = y := by simp only [nmv, bt_nums ok]; simp [D4, D3]; omega
    have e1 : nmv (strOfNums (D4 y ++ [45] ++ D3 (num y m d - beg y + 1))) 5 3 = num y m d - beg y + 1 := by simp only [nmv, bt_nums ok]; simp [D4, D3]; omega
    rw [e0, e1]; unfold ydR; rw [if_pos (by omega), show beg y + (num y m d - beg y + 1) - 1 = num y m d by omega, hof]; rfl
  | 3, _ =>
    have ok := ok_f3 (y := y) (n := num y m d - beg y + 1) ⟨v1, v2⟩ (by omega)
    refine parse_of (f := 3) (by rw [strOfNums_size]; simp [TL, D4, D3]) (shp_f3 (y := y) (n := num y m d - beg y + 1) ⟨v1, v2⟩ (by omega)) ?_
    show ydR (nmv (strOfNums (D4 y ++ D3 (num y m d - beg y + 1))) 0 4) (nmv (strOfNums (D4 y ++ D3 (num y m d - beg y + 1))) 4 3) 4 = _
    have e0 : nmv (strOfNums (D4 y ++ D3 (num y m d - beg y + 1))) 0 4 = y := by simp only [nmv, bt_nums ok]; simp [D4, D3]; omega
    have e1 : nmv (strOfNums (D4 y ++ D3 (num y m d - beg y + 1))) 4 3 = num y m d - beg y + 1 := by simp only [nmv, bt_nums ok]; simp [D4, D3]; omega
    rw [e0, e1]; unfold ydR; rw [if_pos (by omega), show beg y + (num y m d - beg y + 1) - 1 = num y m d by omega, hof]; rfl
  | 4, _ =>
    have hw := hw (by omega)
    generalize ha : wkY y (num y m d) = a at *
    generalize hwk : wkW y (num y m d) = w at *
    have ok := ok_f4 (a := a) (w := w) (x := wd (num y m d) + 1) hw (by omega) (by omega)
    refine parse_of (f := 4) (by rw [strOfNums_size]; simp [TL, D4, D2, D1]) (shp_f4 (a := a) (w := w) (x := wd (num y m d) + 1) hw (by omega) (by omega)) ?_
    show ywR (nmv (strOfNums (D4 a ++ [45, 87] ++ D2 w ++ [45] ++ D1 (wd (num y m d) + 1))) 0 4) (nmv (strOfNums (D4 a ++ [45, 87] ++ D2 w ++ [45] ++ D1 (wd (num y m d) + 1))) 6 2) (nmv (strOfNums (D4 a ++ [45, 87] ++ D2 w ++ [45] ++ D1 (wd (num y m d) + 1))) 9 1) 6 9 = _
    have e0 : nmv (strOfNums (D4 a ++ [45, 87] ++ D2 w ++ [45] ++ D1 (wd (num y m d) + 1))) 0 4 = a := by simp only [nmv, bt_nums ok]; simp [D4, D2, D1]; omega
    have e1 : nmv (strOfNums (D4 a ++ [45, 87] ++ D2 w ++ [45] ++ D1 (wd (num y m d) + 1))) 6 2 = w := by simp only [nmv, bt_nums ok]; simp [D4, D2, D1]; omega
    have e2 : nmv (strOfNums (D4 a ++ [45, 87] ++ D2 w ++ [45] ++ D1 (wd (num y m d) + 1))) 9 1 = wd (num y m d) + 1 := by simp only [nmv, bt_nums ok]; simp [D4, D2, D1]; omega
    rw [e0, e1, e2]; unfold ywR
    rw [if_pos ⟨k2, k3⟩, if_pos (by omega), fromWeek_eq, if_pos (show fwOk a w (wd (num y m d) + 1) = true from decide_eq_true (by omega))]
    rw [show fst_ a + 7 * (w - 1) + (wd (num y m d) + 1) - 1 = num y m d by omega]
    rw [cof_in 30001 (by omega) hv]; rfl
  | 5, _ =>
    have hw := hw (by omega)
    generalize ha : wkY y (num y m d) = a at *
    generalize hwk : wkW y (num y m d) = w at *
    have ok := ok_f5 (a := a) (w := w) (x := wd (num y m d) + 1) hw (by omega) (by omega)
    refine parse_of (f := 5) (by rw [strOfNums_size]; simp [TL, D4, D2, D1]) (shp_f5 (a := a) (w := w) (x := wd (num y m d) + 1) hw (by omega) (by omega)) ?_
    show ywR (nmv (strOfNums (D4 a ++ [87] ++ D2 w ++ D1 (wd (num y m d) + 1))) 0 4) (nmv (strOfNums (D4 a ++ [87] ++ D2 w ++ D1 (wd (num y m d) + 1))) 5 2) (nmv (strOfNums (D4 a ++ [87] ++ D2 w ++ D1 (wd (num y m d) + 1))) 7 1) 5 7 = _
    have e0 : nmv (strOfNums (D4 a ++ [87] ++ D2 w ++ D1 (wd (num y m d) + 1))) 0 4 = a := by simp only [nmv, bt_nums ok]; simp [D4, D2, D1]; omega
    have e1 : nmv (strOfNums (D4 a ++ [87] ++ D2 w ++ D1 (wd (num y m d) + 1))) 5 2 = w := by simp only [nmv, bt_nums ok]; simp [D4, D2, D1]; omega
    have e2 : nmv (strOfNums (D4 a ++ [87] ++ D2 w ++ D1 (wd (num y m d) + 1))) 7 1 = wd (num y m d) + 1 := by simp only [nmv, bt_nums ok]; simp [D4, D2, D1]; omega
    rw [e0, e1, e2]; unfold ywR
    rw [if_pos ⟨k2, k3⟩, if_pos (by omega), fromWeek_eq, if_pos (show fwOk a w (wd (num y m d) + 1) = true from decide_eq_true (by omega))]
    rw [show fst_ a + 7 * (w - 1) + (wd (num y m d) + 1) - 1 = num y m d by omega]
    rw [cof_in 30001 (by omega) hv]; rfl
end Go.Proofs.YtiklakkkgmilnaaDoor.CalP
set_option linter.unusedVariables false
set_option linter.unusedSimpArgs false
namespace Go.Proofs.YtiklakkkgmilnaaDoor.CalP
open Go.RowKit Go.IntWalk Go.Proofs.YtiklakkkgmilnaaDoorW.PrintWords Go.Proofs.YtiklakkkgmilnaaDoor.Ext Go.Proofs.YtiklakkkgmilnaaDoor.PCal Go.Proofs.YtiklakkkgmilnaaDoor.GC

/-- the order of two lists of bytes -/
def lx : List Int → List Int → Bool
  | _, [] => false
  | [], _ :: _ => true
  | a :: x, b :: y => decide (a < b) || (decide (a = b) && lx x y)
theorem less_nums : ∀ {l k : List Int}, okL l → okL k → Op.bytesLess (l.map fun n => UInt8.ofNat n.toNat) (k.map fun n => UInt8.ofNat n.toNat) = lx l k
  | _, [], _, _ => by unfold lx Op.bytesLess; rfl
  | [], _ :: _, _, _ => by unfold lx Op.bytesLess; rfl
  | a :: l, b :: k, hl, hk => by
    have ha := hl a List.mem_cons_self
    have hb := hk b List.mem_cons_self
    have ih := less_nums (fun c h => hl c (List.mem_cons_of_mem _ h)) (fun c h => hk c (List.mem_cons_of_mem _ h))
    simp only [List.map_cons, Op.bytesLess, lx]
    rw [ih]
    have e1 : (decide (UInt8.ofNat a.toNat < UInt8.ofNat b.toNat)) = decide (a < b) := by
      apply decide_eq_decide.2
      rw [UInt8.lt_iff_toNat_lt, UInt8.toNat_ofNat', UInt8.toNat_ofNat']
      omega
    have e2 : (UInt8.ofNat a.toNat == UInt8.ofNat b.toNat) = decide (a = b) := by
      rw [Bool.eq_iff_iff, beq_iff_eq, decide_eq_true_iff, ← UInt8.toNat_inj, UInt8.toNat_ofNat', UInt8.toNat_ofNat']
      omega
    rw [e1, e2]
theorem toList_nums (l : List Int) : (strOfNums l).toList = l.map fun n => UInt8.ofNat n.toNat := by rw [ByteArray.toList_eq, strOfNums_data]
theorem less_str {l k : List Int} (hl : okL l) (hk : okL k) : Op.bytesLess (strOfNums l).toList (strOfNums k).toList = lx l k := by
  rw [toList_nums, toList_nums]; exact less_nums hl hk
/-- the number of a list of digits, and of what stands between them -/
def vl : List Int → Int
  | [] => 0
  | c :: l => (c - 48) * 10 ^ l.length + vl l
/-- digits at the same places, the same bytes elsewhere -/
def alike : List Int → List Int → Prop
  | [], [] => True
  | a :: l, b :: k => ((48 ≤ a ∧ a ≤ 57 ∧ 48 ≤ b ∧ b ≤ 57) ∨ a = b) ∧ alike l k
  | _, _ => False
theorem alike_len : ∀ {l k : List Int}, alike l k → l.length = k.length
  | [], [], _ => rfl
  | _ :: l, _ :: k, h => by simp [alike_len h.2]
  | [], _ :: _, h => h.elim
  | _ :: _, [], h => h.elim
theorem vl_gap : ∀ {l k : List Int}, alike l k → vl l - vl k < 10 ^ l.length ∧ vl k - vl l < 10 ^ l.length
  | [], [], _ => by simp [vl]
  | a :: l, b :: k, h => by
    have ih := vl_gap h.2
    have hl := alike_len h.2
    simp only [vl, List.length_cons, hl] at *
    rw [Int.pow_succ]
    have hp : (0 : Int) < 10 ^ k.length := Int.pow_pos (by decide)
    generalize (10 : Int) ^ k.length = p at *
    have key : ∀ z : Int, -9 ≤ z → z ≤ 9 → z * p ≤ 9 * p ∧ -(9 * p) ≤ z * p := by
      intro z z1 z2
      constructor
      · exact Int.mul_le_mul_of_nonneg_right z2 (by omega)
      · have := Int.mul_le_mul_of_nonneg_right z1 (show 0 ≤ p by omega); omega
    rcases h.1 with q | q
    · have := key (a - b) (by omega) (by omega)
      have e : (a - 48) * p - (b - 48) * p = (a - b) * p := by rw [← Int.sub_mul]; congr 1; omega
      omega
    · subst q; omega
  | [], _ :: _, h => h.elim
  | _ :: _, [], h => h.elim
theorem lx_vl : ∀ {l k : List Int}, alike l k → lx l k = decide (vl l < vl k)
  | [], [], _ => by simp [lx, vl]
  | a :: l, b :: k, h => by
    have ih := lx_vl h.2
    have gp := vl_gap h.2
    have hl := alike_len h.2
    rw [lx, ih]
    simp only [vl, hl] at *
    have hp : (0 : Int) < 10 ^ k.length := Int.pow_pos (by decide)
    generalize (10 : Int) ^ k.length = p at *
    have e : (a - 48) * p - (b - 48) * p = (a - b) * p := by rw [← Int.sub_mul]; congr 1; omega
    by_cases c1 : a < b
    · have : (a - b) * p ≤ -1 * p := Int.mul_le_mul_of_nonneg_right (by omega) (by omega)
      rw [decide_eq_true c1, decide_eq_true (show (a - 48) * p + vl l < (b - 48) * p + vl k by omega)]; rfl
    · by_cases c2 : a = b
      · subst c2
        rw [decide_eq_false c1, decide_eq_true rfl]
        simp only [Bool.false_or, Bool.true_and]
        exact decide_eq_decide.2 (by omega)
      · have : 1 * p ≤ (a - b) * p := Int.mul_le_mul_of_nonneg_right (by omega) (by omega)
        rw [decide_eq_false c1, decide_eq_false c2, decide_eq_false (show ¬ (a - 48) * p + vl l < (b - 48) * p + vl k by omega)]; rfl
  | [], _ :: _, h => h.elim
  | _ :: _, [], h => h.elim
section
variable {y m d n a w x y' m' d' n' a' w' x' : Int}
theorem lx_f0 (hy : 0 ≤ y ∧ y ≤ 9999) (hm : 0 ≤ m ∧ m ≤ 99) (hd : 0 ≤ d ∧ d ≤ 99) (hy' : 0 ≤ y' ∧ y' ≤ 9999) (hm' : 0 ≤ m' ∧ m' ≤ 99) (hd' : 0 ≤ d' ∧ d' ≤ 99) :
    lx (D4 y ++ [45] ++ D2 m ++ [45] ++ D2 d) (D4 y' ++ [45] ++ D2 m' ++ [45] ++ D2 d') = decide (y * 1000000 + m * 1000 + d < y' * 1000000 + m' * 1000 + d') := by
  rw [lx_vl (by simp [alike, D4, D2]; omega)]
  apply decide_eq_decide.2
  simp [vl, D4, D2]
  omega
theorem lx_f1 (hy : 0 ≤ y ∧ y ≤ 9999) (hm : 0 ≤ m ∧ m ≤ 99) (hd : 0 ≤ d ∧ d ≤ 99) (hy' : 0 ≤ y' ∧ y' ≤ 9999) (hm' : 0 ≤ m' ∧ m' ≤ 99) (hd' : 0 ≤ d' ∧ d' ≤ 99) :
    lx (D4 y ++ D2 m ++ D2 d) (D4 y' ++ D2 m' ++ D2 d') = decide (y * 10000 + m * 100 + d < y' * 10000 + m' * 100 + d') := by
  rw [lx_vl (by simp [alike, D4, D2]; omega)]
  apply decide_eq_decide.2
  simp [vl, D4, D2]
  omega
theorem lx_f2 (hy : 0 ≤ y ∧ y ≤ 9999) (hn : 0 ≤ n ∧ n ≤ 999) (hy' : 0 ≤ y' ∧ y' ≤ 9999) (hn' : 0 ≤ n' ∧ n' ≤ 999) :
    lx (D4 y ++ [45] ++ D3 n) (D4 y' ++ [45] ++ D3 n') = decide (y * 10000 + n < y' * 10000 + n') := by
  rw [lx_vl (by simp [alike, D4, D3]; omega)]
  apply decide_eq_decide.2
  simp [vl, D4, D3]
  omega
theorem lx_f4 (hy : 0 ≤ a ∧ a ≤ 9999) (hm : 0 ≤ w ∧ w ≤ 99) (hd : 0 ≤ x ∧ x ≤ 9) (hy' : 0 ≤ a' ∧ a' ≤ 9999) (hm' : 0 ≤ w' ∧ w' ≤ 99) (hd' : 0 ≤ x' ∧ x' ≤ 9) :
    lx (D4 a ++ [45, 87] ++ D2 w ++ [45] ++ D1 x) (D4 a' ++ [45, 87] ++ D2 w' ++ [45] ++ D1 x') = decide (a * 1000000 + w * 100 + x < a' * 1000000 + w' * 100 + x') := by
  rw [lx_vl (by simp [alike, D4, D2, D1]; omega)]
  apply decide_eq_decide.2
  simp [vl, D4, D2, D1]
  omega
end
/-- days stand in the order of their numbers -/
theorem num_lt {y m d y' m' d' : Int} (h : vldB y m d = true) (h' : vldB y' m' d' = true) (q : y < y' ∨ (y = y' ∧ (m < m' ∨ (m = m' ∧ d < d')))) : num y m d < num y' m' d' := by
  obtain ⟨n1, n2, n3, n4⟩ := num_bd h
  obtain ⟨n1', n2', n3', n4'⟩ := num_bd h'
  obtain ⟨v1, v2, v3, v4, v5, v6⟩ := vld_out h
  obtain ⟨v1', v2', v3', v4', v5', v6'⟩ := vld_out h'
  rcases q with q | ⟨rfl, q | ⟨rfl, q⟩⟩
  · have := beg_mono (y + 1) y' (by omega) (by omega); omega
  · have e := ahd_succ y m v3 v4
    have f := ahd_mono y (m + 1) m' (by omega) (by omega) (by omega)
    unfold num; omega
  · unfold num; omega
theorem lex3 {y m d y' m' d' : Int} (h : vldB y m d = true) (h' : vldB y' m' d' = true) : decide (y * 1000000 + m * 1000 + d < y' * 1000000 + m' * 1000 + d') = decide (num y m d < num y' m' d') ∧
    decide (y * 10000 + m * 100 + d < y' * 10000 + m' * 100 + d') = decide (num y m d < num y' m' d') := by
  obtain ⟨v1, v2, v3, v4, v5, v6⟩ := vld_out h
  obtain ⟨v1', v2', v3', v4', v5', v6'⟩ := vld_out h'
  have b := dim_bd y m v3 v4
  have b' := dim_bd y' m' v3' v4'
  by_cases q : y < y' ∨ (y = y' ∧ (m < m' ∨ (m = m' ∧ d < d')))
  · have := num_lt h h' q
    rw [decide_eq_true this, decide_eq_true (by omega), decide_eq_true (by omega)]; exact ⟨rfl, rfl⟩
  · by_cases e : y = y' ∧ m = m' ∧ d = d'
    · obtain ⟨rfl, rfl, rfl⟩ := e; simp
    · have := num_lt h' h (by omega)
      rw [decide_eq_false (show ¬ num y m d < num y' m' d' by omega), decide_eq_false (by omega), decide_eq_false (by omega)]; exact ⟨rfl, rfl⟩
theorem lex2 {y m d y' m' d' : Int} (h : vldB y m d = true) (h' : vldB y' m' d' = true) : decide (y * 10000 + (num y m d - beg y + 1) < y' * 10000 + (num y' m' d' - beg y' + 1)) = decide (num y m d < num y' m' d') := by
  obtain ⟨n1, n2, n3, n4⟩ := num_bd h
  obtain ⟨n1', n2', n3', n4'⟩ := num_bd h'
  obtain ⟨v1, v2, _⟩ := vld_out h
  obtain ⟨v1', v2', _⟩ := vld_out h'
  have s := beg_succ y v1
  have s' := beg_succ y' v1'
  have l := lpN_01 y
  have l' := lpN_01 y'
  apply decide_eq_decide.2
  by_cases q : y < y'
  · have := beg_mono (y + 1) y' (by omega) (by omega); omega
  · by_cases e : y = y'
    · subst e; omega
    · have := beg_mono (y' + 1) y (by omega) (by omega); omega
theorem fst_mono {a b : Int} (h : -1 ≤ a) (hab : a < b) (hb : b ≤ 9999) : fst_ a + 7 * wks a ≤ fst_ b := by
  have key : ∀ g : Nat, ∀ a : Int, -1 ≤ a → b - a = g + 1 → fst_ a + 7 * wks a ≤ fst_ b := by
    intro g
    induction g with
    | zero => intro a h e; have := (wks_ref a h).2; rw [show a + 1 = b by omega] at this; omega
    | succ g ih =>
      intro a h e
      have s := (wks_ref a h).2
      have := ih (a + 1) (by omega) (by omega)
      have w := wks_bd (a + 1)
      omega
  exact key (b - a - 1).toNat a h (by omega)
theorem lexw {y m d y' m' d' : Int} (h : vldB y m d = true) (h' : vldB y' m' d' = true) (ha : 0 ≤ wkY y (num y m d) ∧ wkY y (num y m d) ≤ 9999) (ha' : 0 ≤ wkY y' (num y' m' d') ∧ wkY y' (num y' m' d') ≤ 9999) :
    decide (wkY y (num y m d) * 1000000 + wkW y (num y m d) * 100 + (wd (num y m d) + 1) < wkY y' (num y' m' d') * 1000000 + wkW y' (num y' m' d') * 100 + (wd (num y' m' d') + 1)) = decide (num y m d < num y' m' d') := by
  obtain ⟨n1, n2, n3, n4⟩ := num_bd h
  obtain ⟨n1', n2', n3', n4'⟩ := num_bd h'
  obtain ⟨v1, v2, _⟩ := vld_out h
  obtain ⟨v1', v2', _⟩ := vld_out h'
  obtain ⟨k1, k2, k3⟩ := wk_back v1 v2 n1 n2
  obtain ⟨k1', k2', k3'⟩ := wk_back v1' v2' n1' n2'
  have b := wks_bd (wkY y (num y m d))
  have b' := wks_bd (wkY y' (num y' m' d'))
  have w := wd_bd (num y m d)
  have w' := wd_bd (num y' m' d')
  apply decide_eq_decide.2
  generalize wkY y (num y m d) = p at *
  generalize wkY y' (num y' m' d') = p' at *
  generalize wkW y (num y m d) = u at *
  generalize wkW y' (num y' m' d') = u' at *
  generalize num y m d = n at *
  generalize num y' m' d' = n' at *
  by_cases q : p < p'
  · have := fst_mono (a := p) (b := p') (by omega) q (by omega); omega
  · by_cases e : p = p'
    · subst e; omega
    · have := fst_mono (a := p') (b := p) (by omega) (by omega) (by omega); omega
/-- from the third day on a week lies in a year from 0 to 9999 -/
theorem wkY_ok {y m d : Int} (h : vldB y m d = true) (h2 : 2 ≤ num y m d) : 0 ≤ wkY y (num y m d) ∧ wkY y (num y m d) ≤ 9999 := by
  obtain ⟨n1, n2, n3, n4⟩ := num_bd h
  obtain ⟨v1, v2, _⟩ := vld_out h
  obtain ⟨t1, t2, t3, t4, t5, t6⟩ := wkY_in v1 v2 n1 n2
  have ht : 0 ≤ thu (num y m d) ∧ thu (num y m d) ≤ 3652424 := by unfold thu wd; omega
  constructor
  · by_cases c : wkY y (num y m d) = -1
    · rw [c] at t2; have e : beg (-1 + 1) = 0 := by decide
      omega
    · omega
  · by_cases c : wkY y (num y m d) = 10000
    · rw [c] at t1; have e : beg 10000 = 3652425 := by decide
      omega
    · omega
end Go.Proofs.YtiklakkkgmilnaaDoor.CalP
set_option linter.unusedVariables false
set_option linter.unusedSimpArgs false
namespace Go.Proofs.YtiklakkkgmilnaaDoor.CalP
open Go.RowKit Go.IntWalk Go.Proofs.YtiklakkkgmilnaaDoorW.PrintWords Go.Proofs.YtiklakkkgmilnaaDoor.Ext Go.Proofs.YtiklakkkgmilnaaDoor.PCal Go.Proofs.YtiklakkkgmilnaaDoor.GC

/-- the f-th text of a day -/
def TX (y m d : Int) (f : Nat) : ByteArray := strOfNums (TL y m d (num y m d - beg y + 1) (wkY y (num y m d)) (wkW y (num y m d)) (wd (num y m d) + 1) f)
theorem pd_TX {y m d : Int} (hv : vldB y m d = true) (h2 : 2 ≤ num y m d) (f : Nat) (hf : f < 6) : pd y m d (num y m d) f = (TX y m d f, 0) := by
  obtain ⟨v1, v2, v3, v4, v5, v6⟩ := vld_out hv
  obtain ⟨n1, n2, n3, n4⟩ := num_bd hv
  have hdm := dim_bd y m v3 v4
  have hb := beg_succ y v1
  have hl := lpN_01 y
  have kb := wkW_bd v1 v2 n1 n2
  have wb := wd_bd (num y m d)
  have hw := wkY_ok hv h2
  have q1 := P4_eq (n := y) ⟨v1, v2⟩
  have q2 := P2_eq (n := m) (by omega)
  have q3 := P2_eq (n := d) (by omega)
  have q4 := P3_eq (n := num y m d - beg y + 1) (by omega)
  have q5 := P4_eq (n := wkY y (num y m d)) hw
  have q6 := P2_eq (n := wkW y (num y m d)) (by omega)
  have q7 := P1_eq (n := wd (num y m d) + 1) (by omega)
  have s1 : (⟨#[45]⟩ : ByteArray) = strOfNums [45] := rfl
  have s2 : (⟨#[87]⟩ : ByteArray) = strOfNums [87] := rfl
  have s3 : (⟨#[45, 87]⟩ : ByteArray) = strOfNums [45, 87] := rfl
  match f, hf with
  | 0, _ =>
    show pd y m d (num y m d) ((0 : Nat) : Int) = (strOfNums (D4 y ++ [45] ++ D2 m ++ [45] ++ D2 d), 0)
    unfold pd
    rw [if_neg (by omega), if_pos (by omega), q1, q2, q3, s1]
    simp only [nums_app]
  | 1, _ =>
    show pd y m d (num y m d) ((1 : Nat) : Int) = (strOfNums (D4 y ++ D2 m ++ D2 d), 0)
    unfold pd
    rw [if_neg (by omega), if_neg (by omega), if_pos (by omega), q1, q2, q3]
    simp only [nums_app]
  | 2, _ =>
    show pd y m d (num y m d) ((2 : Nat) : Int) = (strOfNums (D4 y ++ [45] ++ D3 (num y m d - beg y + 1)), 0)
    unfold pd
    rw [if_neg (by omega), if_neg (by omega), if_neg (by omega), if_pos (by omega), q1, q4, s1]
    simp only [nums_app]
  | 3, _ =>
    show pd y m d (num y m d) ((3 : Nat) : Int) = (strOfNums (D4 y ++ D3 (num y m d - beg y + 1)), 0)
    unfold pd
    rw [if_neg (by omega), if_neg (by omega), if_neg (by omega), if_neg (by omega), if_pos (by omega), q1, q4]
    simp only [nums_app]
  | 4, _ =>
    show pd y m d (num y m d) ((4 : Nat) : Int) = (strOfNums (D4 (wkY y (num y m d)) ++ [45, 87] ++ D2 (wkW y (num y m d)) ++ [45] ++ D1 (wd (num y m d) + 1)), 0)
    unfold pd
    rw [if_neg (by omega), if_neg (by omega), if_neg (by omega), if_neg (by omega), if_neg (by omega), if_neg (by omega), if_pos (by omega), q5, q6, q7, s1, s3]
    simp only [nums_app]
  | 5, _ =>
    show pd y m d (num y m d) ((5 : Nat) : Int) = (strOfNums (D4 (wkY y (num y m d)) ++ [87] ++ D2 (wkW y (num y m d)) ++ D1 (wd (num y m d) + 1)), 0)
    unfold pd
    rw [if_neg (by omega), if_neg (by omega), if_neg (by omega), if_neg (by omega), if_neg (by omega), if_neg (by omega), if_neg (by omega), q5, q6, q7, s2]
    simp only [nums_app]
def TXs (y m d : Int) : List ByteArray := [TX y m d 0, TX y m d 1, TX y m d 2, TX y m d 3, TX y m d 4, TX y m d 5]
theorem forms_eq {y m d : Int} (hv : vldB y m d = true) (h2 : 2 ≤ num y m d) (k : Nat) (hk : 30010 ≤ k) : larderlaw03_forms.f k y m d = some (TXs y m d, true) := by
  have hp : ∀ (k : Nat) (f : Nat), 30001 ≤ k → f < 6 → cal_PrintDate.f k y m d f = some (TX y m d f, 0) := by
    intro k f hk hf
    rw [cprint_eq k hk y m d f, if_pos hv, pd_TX hv h2 f hf]
  unfold larderlaw03_forms.f
  obtain ⟨k, rfl⟩ : ∃ q, k = q + 7 := ⟨k - 7, by omega⟩
  have step : ∀ (k f : Nat) (l : List ByteArray), 30001 ≤ k → f < 6 → l.length < 100 → larderlaw03_forms.l0 (k + 1) l f y m d = larderlaw03_forms.l0 k (l ++ [TX y m d f]) ((f + 1 : Nat) : Int) y m d := by
    intro k f l hk hf hl
    rw [larderlaw03_forms.l0, if_pos (by omega), hp k f hk hf]
    simp only [Option.bind_some]
    rw [if_pos trivial, if_pos (by omega), wS (by omega)]
    rfl
  have s0 := step (k + 6) 0 [] (by omega) (by omega) (by simp)
  have s1 := step (k + 5) 1 [TX y m d 0] (by omega) (by omega) (by simp)
  have s2 := step (k + 4) 2 [TX y m d 0, TX y m d 1] (by omega) (by omega) (by simp)
  have s3 := step (k + 3) 3 [TX y m d 0, TX y m d 1, TX y m d 2] (by omega) (by omega) (by simp)
  have s4 := step (k + 2) 4 [TX y m d 0, TX y m d 1, TX y m d 2, TX y m d 3] (by omega) (by omega) (by simp)
  have s5 := step (k + 1) 5 [TX y m d 0, TX y m d 1, TX y m d 2, TX y m d 3, TX y m d 4] (by omega) (by omega) (by simp)
  have e6 : larderlaw03_forms.l0 (k + 1) (TXs y m d) 6 y m d = some (TXs y m d, true) := by rw [larderlaw03_forms.l0, if_neg (by omega)]
  exact s0.trans (s1.trans (s2.trans (s3.trans (s4.trans (s5.trans e6)))))
end Go.Proofs.YtiklakkkgmilnaaDoor.CalP
set_option linter.unusedVariables false
set_option linter.unusedSimpArgs false
namespace Go.Proofs.YtiklakkkgmilnaaDoor.CalP
open Go.RowKit Go.IntWalk Go.Proofs.YtiklakkkgmilnaaDoorW.PrintWords Go.Proofs.YtiklakkkgmilnaaDoor.Ext Go.Proofs.YtiklakkkgmilnaaDoor.PCal Go.Proofs.YtiklakkkgmilnaaDoor.GC

theorem ib_app : ∀ (A B : List UInt8) (c : UInt8), (∀ x ∈ A, x ≠ c) → Lib.indexByte (A ++ c :: B) c = A.length
  | [], B, c, _ => by simp [Lib.indexByte]
  | a :: A, B, c, h => by
    have ih := ib_app A B c (fun x hx => h x (List.mem_cons_of_mem _ hx))
    have ha : a ≠ c := h a (List.mem_cons_self ..)
    have e : (a == c) = false := by simpa using ha
    rw [List.cons_append, Lib.indexByte, e, ih]
    rw [if_neg (by simp), if_neg (by simp)]
    simp
theorem ib_none : ∀ (A : List UInt8) (c : UInt8), (∀ x ∈ A, x ≠ c) → Lib.indexByte A c = -1
  | [], c, _ => by simp [Lib.indexByte]
  | a :: A, c, h => by
    have ih := ib_none A c (fun x hx => h x (List.mem_cons_of_mem _ hx))
    have ha : a ≠ c := h a (List.mem_cons_self ..)
    have e : (a == c) = false := by simpa using ha
    rw [Lib.indexByte, e, ih]
    rw [if_neg (by simp)]
    simp
/-- the bytes of numbers differ as the numbers do -/
theorem byte_ne {c e : Int} (h : 0 ≤ c ∧ c < 256) (he : 0 ≤ e ∧ e < 256) (hne : c ≠ e) : UInt8.ofNat c.toNat ≠ UInt8.ofNat e.toNat := by
  intro hh
  have := congrArg UInt8.toNat hh
  rw [UInt8.toNat_ofNat', UInt8.toNat_ofNat'] at this
  omega
theorem ib_at : ∀ (A : List UInt8) (c : UInt8), c ∈ A → 0 ≤ Lib.indexByte A c
  | [], c, h => by simp at h
  | a :: A, c, h => by
    rw [Lib.indexByte]
    by_cases e : (a == c) = true
    · rw [if_pos e]; exact Int.le_refl _
    · rw [if_neg e]
      have hc : c ∈ A := (List.mem_cons.1 h).resolve_left (fun q => e (by rw [q]; simp))
      have := ib_at A c hc
      rw [if_neg (by simp; omega)]; omega
theorem dash0 {l : List Int} (h : (45 : Int) ∈ l) : decide (0 ≤ Lib.indexByte (strOfNums l).data.toList 45) = true := by
  rw [decide_eq_true_eq]
  refine ib_at _ _ ?_
  rw [strOfNums_data]
  exact List.mem_map.2 ⟨45, h, rfl⟩
theorem dash1 {l : List Int} (h : ∀ c ∈ l, 0 ≤ c ∧ c < 256 ∧ c ≠ 45) : decide (0 ≤ Lib.indexByte (strOfNums l).data.toList 45) = false := by
  rw [ib_none]
  · decide
  · intro x hx
    rw [strOfNums_data] at hx
    obtain ⟨c, hc, rfl⟩ := List.mem_map.1 hx
    have := h c hc
    exact byte_ne (e := 45) ⟨this.1, this.2.1⟩ (by omega) this.2.2
/-- a list of bytes without T -/
def noT (l : List Int) : Prop := ∀ c ∈ l, 0 ≤ c ∧ c < 256 ∧ c ≠ 84
theorem noT_app {a b : List Int} (ha : noT a) (hb : noT b) : noT (a ++ b) := fun c h => (List.mem_append.1 h).elim (ha c) (hb c)
theorem noT_D1 {n : Int} (h : 0 ≤ n ∧ n ≤ 9) : noT (D1 n) := by intro c hc; simp [D1] at hc; omega
theorem noT_D2 {n : Int} (h : 0 ≤ n ∧ n ≤ 99) : noT (D2 n) := by intro c hc; simp [D2] at hc; omega
theorem noT_D3 {n : Int} (h : 0 ≤ n ∧ n ≤ 999) : noT (D3 n) := by intro c hc; simp [D3] at hc; omega
theorem noT_D4 {n : Int} (h : 0 ≤ n ∧ n ≤ 9999) : noT (D4 n) := by intro c hc; simp [D4] at hc; omega
theorem noT_45 : noT [45] := by intro c hc; simp at hc; omega
theorem noT_87 : noT [87] := by intro c hc; simp at hc; omega
theorem noT_4587 : noT [45, 87] := by intro c hc; simp at hc; omega
section
variable {L : List Int} {R : ByteArray}
theorem iT_TX (h : noT L) : iT (strOfNums L ++ ((⟨#[84]⟩ : ByteArray) ++ R)) = L.length := by
  unfold iT
  have e : (strOfNums L ++ ((⟨#[84]⟩ : ByteArray) ++ R)).data.toList = (L.map fun n => UInt8.ofNat n.toNat) ++ 84 :: R.data.toList := by
    simp [ByteArray.data_append, Array.toList_append, strOfNums_data]
  rw [e, ib_app]
  · simp
  · intro x hx
    obtain ⟨c, hc, rfl⟩ := List.mem_map.1 hx
    have := h c hc
    exact byte_ne (e := 84) ⟨this.1, this.2.1⟩ (by omega) this.2.2
theorem ext_left (A B : ByteArray) : (A ++ B).extract 0 A.size = A := by
  apply ByteArray.ext
  apply Array.ext'
  have z : A.data.toList.length = A.size := by simp
  rw [ByteArray.data_extract, Array.toList_extract, ByteArray.data_append, Array.toList_append, ← z, List.extract_eq_take_drop]
  simp
theorem ext_right (A B C : ByteArray) (hB : B.size = 1) : (A ++ (B ++ C)).extract (A.size + 1) (A ++ (B ++ C)).size = C := by
  apply ByteArray.ext
  apply Array.ext'
  have hb : B.data.toList.length = 1 := by rw [← hB]; simp
  have z : A.data.toList.length = A.size := by simp
  have zc : C.data.toList.length = C.size := by simp
  have zall : (A ++ (B ++ C)).size = A.size + (1 + C.size) := by rw [ByteArray.size_append, ByteArray.size_append, hB]
  rw [ByteArray.data_extract, Array.toList_extract, ByteArray.data_append, Array.toList_append, ByteArray.data_append, Array.toList_append, zall, ← List.append_assoc, List.extract_eq_take_drop]
  have e : A.size + 1 = (A.data.toList ++ B.data.toList).length := by rw [List.length_append, hb, z]
  rw [e, List.drop_left, List.take_of_length_le]
  rw [zc, ← e]; omega
theorem fst_TX (h : noT L) : fstT (strOfNums L ++ ((⟨#[84]⟩ : ByteArray) ++ R)) = strOfNums L := by
  unfold fstT
  rw [iT_TX h, if_pos (by omega), Int.toNat_natCast]
  have := ext_left (strOfNums L) ((⟨#[84]⟩ : ByteArray) ++ R)
  rwa [strOfNums_size] at this
theorem rst_TX (h : noT L) : rstT (strOfNums L ++ ((⟨#[84]⟩ : ByteArray) ++ R)) = R := by
  unfold rstT
  rw [iT_TX h, Int.toNat_natCast]
  have := ext_right (strOfNums L) (⟨#[84]⟩ : ByteArray) R rfl
  rwa [strOfNums_size] at this
theorem ext_TX (h : noT L) {ext : Bool} (hx : decide (0 ≤ Lib.indexByte (strOfNums L).data.toList 45) = ext) : extT (strOfNums L ++ ((⟨#[84]⟩ : ByteArray) ++ R)) = ext := by
  unfold extT
  rw [fst_TX h]; exact hx
/-- ParseInstant of a day's text, T, a rest -/
theorem inst_TX {y m d : Int} (h : noT L) (hl : L.length ≤ 20) (hR : R.size ≤ 40) {ext : Bool} (hx : decide (0 ≤ Lib.indexByte (strOfNums L).data.toList 45) = ext) (hd : cal_ParseDate.f (strOfNums L) = some (y, m, d, 0, 0)) (ho : odd8 R = false) (c1 : Int) (c2 : Bool) (c3 : Int) (hc : clockF (hrs R) ext = (c1, c2, c3)) :
    cal_ParseInstant.f (strOfNums L ++ ((⟨#[84]⟩ : ByteArray) ++ R)) =
      if ¬ (0 ≤ c1 ∧ c1 ≤ 100000 ∧ 0 ≤ c3 ∧ c3 ≤ 1000) then none
      else if c2 = false then some (0, 32, (L.length : Int) + 1 + c3)
      else if kA R < 0 then some (0, 33, (L.length : Int) + 1 + R.size)
      else (cal_zone.f 100 (R.extract (kA R).toNat R.size) ext).bind fun z => inst4 ((L.length : Int) + 1 + R.size) ((L.length : Int) + 1 + kA R) y m d c1 z := by
  have hs : (strOfNums L ++ ((⟨#[84]⟩ : ByteArray) ++ R)).size = L.length + 1 + R.size := by
    rw [ByteArray.size_append, ByteArray.size_append, strOfNums_size]; show L.length + (1 + R.size) = _; omega
  have hs' : ((strOfNums L ++ ((⟨#[84]⟩ : ByteArray) ++ R)).size : Int) = (L.length : Int) + 1 + R.size := by omega
  unfold cal_ParseInstant.f
  rw [if_neg (by omega), fst_TX h, hd]
  simp only [Option.bind_some]
  rw [if_neg (by simp), iT_TX h, if_neg (by omega), rst_TX h, ho, if_neg (by simp)]
  unfold inst3
  rw [ext_TX h hx, hc, fst_TX h, rst_TX h, hs', strOfNums_size]
end
end Go.Proofs.YtiklakkkgmilnaaDoor.CalP
set_option linter.unusedVariables false
set_option linter.unusedSimpArgs false
namespace Go.Proofs.YtiklakkkgmilnaaDoor.CalP
open Go.RowKit Go.IntWalk Go.Proofs.YtiklakkkgmilnaaDoorW.PrintWords Go.Proofs.YtiklakkkgmilnaaDoor.Ext Go.Proofs.YtiklakkkgmilnaaDoor.PCal Go.Proofs.YtiklakkkgmilnaaDoor.GC

theorem ext_nums' (l : List Int) (a b : Nat) : (strOfNums l).extract a b = strOfNums ((l.take b).drop a) := by
  apply ByteArray.ext
  apply Array.ext'
  rw [ByteArray.data_extract, Array.toList_extract, strOfNums_data, strOfNums_data]
  simp [List.map_drop, List.map_take, List.extract_eq_take_drop, List.drop_take]
theorem ia_app : ∀ (A B : List UInt8) (c : UInt8) (cs : List UInt8), (∀ x ∈ A, cs.contains x = false) → cs.contains c = true → Lib.indexAny (A ++ c :: B) cs = A.length
  | [], B, c, cs, _, hc => by rw [List.nil_append, Lib.indexAny, if_pos hc]; rfl
  | a :: A, B, c, cs, h, hc => by
    have ih := ia_app A B c cs (fun x hx => h x (List.mem_cons_of_mem _ hx)) hc
    have ha : cs.contains a = false := h a (List.mem_cons_self ..)
    rw [List.cons_append, Lib.indexAny, ih, ha]
    rw [if_neg (by simp), if_neg (by simp)]
    simp
theorem notZ {c : Int} (h : 48 ≤ c ∧ c ≤ 58) : ([90, 43, 45] : List UInt8).contains (UInt8.ofNat c.toNat) = false := by
  have a := byte_ne (c := c) (e := 90) (by omega) (by omega) (by omega)
  have b := byte_ne (c := c) (e := 43) (by omega) (by omega) (by omega)
  have d := byte_ne (c := c) (e := 45) (by omega) (by omega) (by omega)
  have e1 : UInt8.ofNat (90 : Int).toNat = 90 := rfl
  have e2 : UInt8.ofNat (43 : Int).toNat = 43 := rfl
  have e3 : UInt8.ofNat (45 : Int).toNat = 45 := rfl
  rw [e1] at a; rw [e2] at b; rw [e3] at d
  simp [a, b, d]
theorem kA_nums {C Z : List Int} {z : Int} (hC : ∀ c ∈ C, 48 ≤ c ∧ c ≤ 58) (hz : z = 90 ∨ z = 43 ∨ z = 45) : kA (strOfNums (C ++ z :: Z)) = C.length := by
  unfold kA
  rw [strOfNums_data, List.map_append, List.map_cons, ia_app]
  · simp
  · intro x hx
    obtain ⟨c, hc, rfl⟩ := List.mem_map.1 hx
    exact notZ (hC c hc)
  · rcases hz with rfl | rfl | rfl <;> rfl
theorem odd8_nums {l : List Int} (h : ∀ c ∈ l, 0 ≤ c ∧ c < 128) : odd8 (strOfNums l) = false := rfl
def ckE (h m s : Int) : List Int := D2 h ++ [58] ++ D2 m ++ [58] ++ D2 s
def ckB (h m s : Int) : List Int := D2 h ++ D2 m ++ D2 s
def znE (g a b : Int) : List Int := D2 a ++ [58] ++ D2 b
def znB (g a b : Int) : List Int := D2 a ++ D2 b
section
variable {h m s a b g : Int}
theorem okE (hh : 0 ≤ h ∧ h ≤ 23) (hm : 0 ≤ m ∧ m ≤ 59) (hs : 0 ≤ s ∧ s ≤ 59) : ∀ c ∈ ckE h m s, 48 ≤ c ∧ c ≤ 58 := by intro c hc; simp [ckE, D2] at hc; omega
theorem okB (hh : 0 ≤ h ∧ h ≤ 23) (hm : 0 ≤ m ∧ m ≤ 59) (hs : 0 ≤ s ∧ s ≤ 59) : ∀ c ∈ ckB h m s, 48 ≤ c ∧ c ≤ 58 := by intro c hc; simp [ckB, D2] at hc; omega
theorem clockE (hh : 0 ≤ h ∧ h ≤ 23) (hm : 0 ≤ m ∧ m ≤ 59) (hs : 0 ≤ s ∧ s ≤ 59) : clockF (strOfNums (ckE h m s)) true = (h * 3600 + m * 60 + s, true, 0) := by
  have ok : okL (ckE h m s) := fun c hc => by have := okE hh hm hs c hc; omega
  have k8 : okL [100, 100, 58, 100, 100, 58, 100, 100] := by intro c hc; simp at hc; omega
  have sh : shp (strOfNums (ckE h m s)) CE 0 0 = (((2 : Nat) : Int), 0) := by
    obtain ⟨x, y⟩ := fit_mtL ok k8 (by simp [mtL, CalP.mt, ckE, D2]; omega)
    show shp (strOfNums (ckE h m s)) [strOfNums [100, 100], strOfNums [100, 100, 58, 100, 100], strOfNums [100, 100, 58, 100, 100, 58, 100, 100]] 0 0 = _
    rw [shp_miss (.inl (miss_len (by simp [ckE, D2]))), shp_miss (.inl (miss_len (by simp [ckE, D2])))]; exact shp_hit x y
  have e0 : nmv (strOfNums (ckE h m s)) 0 2 = h := by simp only [nmv, bt_nums ok]; simp [ckE, D2]; omega
  have e1 : nmv (strOfNums (ckE h m s)) 3 2 = m := by simp only [nmv, bt_nums ok]; simp [ckE, D2]; omega
  have e2 : nmv (strOfNums (ckE h m s)) 6 2 = s := by simp only [nmv, bt_nums ok]; simp [ckE, D2]; omega
  unfold clockF
  simp only [if_true, sh, e0, e1, e2]
  rw [if_neg (by omega), if_neg (by omega), if_neg (by omega)]
  unfold clkR
  rw [if_neg (by omega), if_neg (by omega), if_neg (by omega), if_neg (by omega)]
theorem clockB (hh : 0 ≤ h ∧ h ≤ 23) (hm : 0 ≤ m ∧ m ≤ 59) (hs : 0 ≤ s ∧ s ≤ 59) : clockF (strOfNums (ckB h m s)) false = (h * 3600 + m * 60 + s, true, 0) := by
  have ok : okL (ckB h m s) := fun c hc => by have := okB hh hm hs c hc; omega
  have k8 : okL [100, 100, 100, 100, 100, 100] := by intro c hc; simp at hc; omega
  have sh : shp (strOfNums (ckB h m s)) CB 0 0 = (((2 : Nat) : Int), 0) := by
    obtain ⟨x, y⟩ := fit_mtL ok k8 (by simp [mtL, CalP.mt, ckB, D2]; omega)
    show shp (strOfNums (ckB h m s)) [strOfNums [100, 100], strOfNums [100, 100, 100, 100], strOfNums [100, 100, 100, 100, 100, 100]] 0 0 = _
    rw [shp_miss (.inl (miss_len (by simp [ckB, D2]))), shp_miss (.inl (miss_len (by simp [ckB, D2])))]; exact shp_hit x y
  have e0 : nmv (strOfNums (ckB h m s)) 0 2 = h := by simp only [nmv, bt_nums ok]; simp [ckB, D2]; omega
  have e1 : nmv (strOfNums (ckB h m s)) 2 2 = m := by simp only [nmv, bt_nums ok]; simp [ckB, D2]; omega
  have e2 : nmv (strOfNums (ckB h m s)) 4 2 = s := by simp only [nmv, bt_nums ok]; simp [ckB, D2]; omega
  unfold clockF
  simp only [Bool.false_eq_true, if_false, sh, e0, e1, e2]
  rw [if_neg (by omega), if_neg (by omega), if_neg (by omega)]
  unfold clkR
  rw [if_neg (by omega), if_neg (by omega), if_neg (by omega), if_neg (by omega)]
def zv (g a b : Int) : Int := if g = 43 then 60 * a + b else -(60 * a + b)
theorem zone_j1 (t : ByteArray) (p : Int) (k : Nat) (ht : 0 < t.size) (hg : bt t 0 = g) (ha : 0 ≤ a ∧ a ≤ 23) (hb : 0 ≤ b ∧ b ≤ 59) (hs : g = 43 ∨ (g = 45 ∧ 0 < 60 * a + b)) : cal_zone.j1 (k + 1) t p a b = some (zv g a b, true, 0) := by
  rw [cal_zone.j1, if_neg (by omega), if_neg (by omega), if_pos (by omega), hg, w64 (x := 60 * a) (by omega) (by omega), w64 (x := 60 * a + b) (by omega) (by omega), w64 (x := -(60 * a + b)) (by omega) (by omega)]
  unfold zv
  rcases hs with rfl | ⟨rfl, h0⟩
  · rfl
  · rw [if_neg (by omega), if_neg (by omega), if_neg (by omega)]
theorem zoneE (ha : 0 ≤ a ∧ a ≤ 23) (hb : 0 ≤ b ∧ b ≤ 59) (hs : g = 43 ∨ (g = 45 ∧ 0 < 60 * a + b)) : cal_zone.f 100 (strOfNums (g :: znE g a b)) true = some (zv g a b, true, 0) := by
  have ok : okL (g :: znE g a b) := by intro c hc; simp [znE, D2] at hc; omega
  have k6 : okL [115, 100, 100, 58, 100, 100] := by intro c hc; simp at hc; omega
  have sh : shp (strOfNums (g :: znE g a b)) [(⟨#[90]⟩ : ByteArray), (⟨#[115, 100, 100]⟩ : ByteArray), (⟨#[115, 100, 100, 58, 100, 100]⟩ : ByteArray)] 0 0 = (((2 : Nat) : Int), 0) := by
    obtain ⟨x, y⟩ := fit_mtL ok k6 (by simp [mtL, CalP.mt, znE, D2]; omega)
    show shp (strOfNums (g :: znE g a b)) [strOfNums [90], strOfNums [115, 100, 100], strOfNums [115, 100, 100, 58, 100, 100]] 0 0 = _
    rw [shp_miss (.inl (miss_len (by simp [znE, D2]))), shp_miss (.inl (miss_len (by simp [znE, D2])))]; exact shp_hit x y
  have sz : (strOfNums (g :: znE g a b)).size = 6 := by rw [strOfNums_size]; simp [znE, D2]
  have e1 : nmv (strOfNums (g :: znE g a b)) 1 2 = a := by simp only [nmv, bt_nums ok]; simp [znE, D2]; omega
  have e2 : nmv (strOfNums (g :: znE g a b)) 4 2 = b := by simp only [nmv, bt_nums ok]; simp [znE, D2]; omega
  have b0 : bt (strOfNums (g :: znE g a b)) 0 = g := by have := bt_nums ok 0; simpa using this
  have dd : ∀ j : Nat, j = 1 ∨ j = 2 ∨ j = 4 ∨ j = 5 → 48 ≤ bt (strOfNums (g :: znE g a b)) j ∧ bt (strOfNums (g :: znE g a b)) j ≤ 57 := by
    intro j hj
    rw [bt_nums ok]
    rcases hj with rfl | rfl | rfl | rfl <;> simp [znE, D2] <;> omega
  unfold cal_zone.f
  rw [if_pos rfl, show (100 : Nat) = 99 + 1 from rfl, cal_zone.j0, shape_eq 99 _ _ (by simp) (by decide) (by simp), sh]
  simp only [Option.bind_some]
  have n1 := num_part 99 (strOfNums (g :: znE g a b)) 1 3 (by omega) (by omega) (by omega) (fun j j1 j2 => dd j (by omega)) (by omega)
  have n2 := num_part 99 (strOfNums (g :: znE g a b)) 4 6 (by omega) (by omega) (by omega) (fun j j1 j2 => dd j (by omega)) (by omega)
  rw [e1] at n1
  rw [e2] at n2
  rw [if_neg (by omega), if_neg (by omega), if_pos (by omega), if_pos (by omega), n1]
  simp only [Option.bind_some]
  rw [if_pos (by omega), if_pos (by omega), if_pos (by omega), sz, show ((4 : Int)).toNat = 4 from rfl, n2]
  simp only [Option.bind_some]
  exact zone_j1 _ 4 98 (by omega) b0 ha hb hs
theorem zoneB (ha : 0 ≤ a ∧ a ≤ 23) (hb : 0 ≤ b ∧ b ≤ 59) (hs : g = 43 ∨ (g = 45 ∧ 0 < 60 * a + b)) : cal_zone.f 100 (strOfNums (g :: znB g a b)) false = some (zv g a b, true, 0) := by
  have ok : okL (g :: znB g a b) := by intro c hc; simp [znB, D2] at hc; omega
  have k6 : okL [115, 100, 100, 100, 100] := by intro c hc; simp at hc; omega
  have sh : shp (strOfNums (g :: znB g a b)) [(⟨#[90]⟩ : ByteArray), (⟨#[115, 100, 100]⟩ : ByteArray), (⟨#[115, 100, 100, 100, 100]⟩ : ByteArray)] 0 0 = (((2 : Nat) : Int), 0) := by
    obtain ⟨x, y⟩ := fit_mtL ok k6 (by simp [mtL, CalP.mt, znB, D2]; omega)
    show shp (strOfNums (g :: znB g a b)) [strOfNums [90], strOfNums [115, 100, 100], strOfNums [115, 100, 100, 100, 100]] 0 0 = _
    rw [shp_miss (.inl (miss_len (by simp [znB, D2]))), shp_miss (.inl (miss_len (by simp [znB, D2])))]; exact shp_hit x y
  have sz : (strOfNums (g :: znB g a b)).size = 5 := by rw [strOfNums_size]; simp [znB, D2]
  have e1 : nmv (strOfNums (g :: znB g a b)) 1 2 = a := by simp only [nmv, bt_nums ok]; simp [znB, D2]; omega
  have e2 : nmv (strOfNums (g :: znB g a b)) 3 2 = b := by simp only [nmv, bt_nums ok]; simp [znB, D2]; omega
  have b0 : bt (strOfNums (g :: znB g a b)) 0 = g := by have := bt_nums ok 0; simpa using this
  have dd : ∀ j : Nat, j = 1 ∨ j = 2 ∨ j = 3 ∨ j = 4 → 48 ≤ bt (strOfNums (g :: znB g a b)) j ∧ bt (strOfNums (g :: znB g a b)) j ≤ 57 := by
    intro j hj
    rw [bt_nums ok]
    rcases hj with rfl | rfl | rfl | rfl <;> simp [znB, D2] <;> omega
  unfold cal_zone.f
  rw [if_neg (by simp), show (100 : Nat) = 99 + 1 from rfl, cal_zone.j0, shape_eq 99 _ _ (by simp) (by decide) (by simp), sh]
  simp only [Option.bind_some]
  have n1 := num_part 99 (strOfNums (g :: znB g a b)) 1 3 (by omega) (by omega) (by omega) (fun j j1 j2 => dd j (by omega)) (by omega)
  have n2 := num_part 99 (strOfNums (g :: znB g a b)) 3 5 (by omega) (by omega) (by omega) (fun j j1 j2 => dd j (by omega)) (by omega)
  rw [e1] at n1
  rw [e2] at n2
  rw [if_neg (by omega), if_neg (by omega), if_pos (by omega), if_pos (by omega), n1]
  simp only [Option.bind_some]
  rw [if_pos (by omega), if_pos (by omega), if_pos (by omega), sz, show ((3 : Int)).toNat = 3 from rfl, n2]
  simp only [Option.bind_some]
  exact zone_j1 _ 3 98 (by omega) b0 ha hb hs
end
end Go.Proofs.YtiklakkkgmilnaaDoor.CalP
namespace Go.Proofs.YtiklakkkgmilnaaDoor.CalP
open Go.RowKit Go.Proofs.YtiklakkkgmilnaaDoorW.PrintWords Go.Proofs.YtiklakkkgmilnaaDoor.Ext Go.Proofs.YtiklakkkgmilnaaDoor.PCal Go.Proofs.YtiklakkkgmilnaaDoor.GC

theorem within_eq (x lo hi : Int) (hx : -9223372036854775808 ≤ x ∧ x ≤ 9223372036854775807) (h0 : 0 ≤ lo) (h1 : lo ≤ hi) (h2 : hi ≤ 1000000000000) : ∃ v, larderlaw03_within.f x lo hi = some v ∧ lo ≤ v ∧ v ≤ hi := by
  unfold larderlaw03_within.f
  rw [w64 (x := hi - lo) (by omega) (by omega), w64 (x := hi - lo + 1) (by omega) (by omega)]
  have key : ∀ z : Int, 0 ≤ z → ∃ v, some (wrap64 (lo + Int.tmod z (hi - lo + 1))) = some v ∧ lo ≤ v ∧ v ≤ hi := by
    intro z hz
    have a := Int.emod_nonneg z (show hi - lo + 1 ≠ 0 by omega)
    have b := Int.emod_lt_of_pos z (show 0 < hi - lo + 1 by omega)
    refine ⟨_, rfl, ?_⟩
    rw [tm _ _ hz, w64 (by omega) (by omega)]
    omega
  by_cases hn : x < 0
  · rw [if_pos hn, if_neg (by omega), w64 (x := x + 1) (by omega) (by omega), w64 (x := -(x + 1)) (by omega) (by omega)]
    exact key _ (by omega)
  · rw [if_neg hn, if_neg (by omega)]
    exact key _ (by omega)
theorem within_same (x lo hi : Int) (h0 : 0 ≤ lo) (h1 : lo ≤ x) (h2 : x ≤ hi) (h3 : hi ≤ 1000000000000) (hl : lo = 0) : larderlaw03_within.f x lo hi = some x := by
  subst hl
  unfold larderlaw03_within.f
  rw [w64 (x := hi - 0) (by omega) (by omega), w64 (x := hi - 0 + 1) (by omega) (by omega), if_neg (by omega), if_neg (by omega), tm _ _ (by omega), Int.emod_eq_of_lt (by omega) (by omega), w64 (by omega) (by omega)]
  exact congrArg some (by omega)
theorem at_eq (k : Nat) (hk : 30000 ≤ k) {Y M D : Int} (hv : vldB Y M D = true) : larderlaw03_at.f k (num Y M D) = some (Y, M, D) := by
  obtain ⟨n1, n2, n3, n4⟩ := num_bd hv
  unfold larderlaw03_at.f
  rw [within_same (num Y M D) 0 3652424 (by omega) (by omega) (by omega) (by omega) rfl]
  simp only [Option.bind_some]
  rw [cof_in k hk hv]
  rfl
end Go.Proofs.YtiklakkkgmilnaaDoor.CalP
set_option linter.unusedVariables false
set_option linter.unusedSimpArgs false
namespace Go.Proofs.YtiklakkkgmilnaaDoor.CalP
open Go.RowKit Go.IntWalk Go.Proofs.YtiklakkkgmilnaaDoorW.PrintWords Go.Proofs.YtiklakkkgmilnaaDoor.Ext Go.Proofs.YtiklakkkgmilnaaDoor.PCal Go.Proofs.YtiklakkkgmilnaaDoor.GC

def T0 (y m d : Int) : List Int := D4 y ++ [45] ++ D2 m ++ [45] ++ D2 d
def T1 (y m d : Int) : List Int := D4 y ++ D2 m ++ D2 d
def zE (z : Int) : List Int := if z = 0 then [90] else if z < 0 then 45 :: znE 45 (-z / 60) (-z % 60) else 43 :: znE 43 (z / 60) (z % 60)
def zB (z : Int) : List Int := if z = 0 then [90] else if z < 0 then 45 :: znB 45 (-z / 60) (-z % 60) else 43 :: znB 43 (z / 60) (z % 60)
def tE (y m d h mi s z : Int) : List Int := T0 y m d ++ (84 :: (ckE h mi s ++ zE z))
def tB (y m d h mi s z : Int) : List Int := T1 y m d ++ (84 :: (ckB h mi s ++ zB z))
theorem read_C {y m d sec v z0 : Int} {L C Z : List Int} {ext : Bool} (hL : noT L) (hl : L.length ≤ 10) (hx : decide (0 ≤ Lib.indexByte (strOfNums L).data.toList 45) = ext) (hd : cal_ParseDate.f (strOfNums L) = some (y, m, d, 0, 0)) (hv : vldB y m d = true)
    (hC : ∀ c ∈ C, 48 ≤ c ∧ c ≤ 58) (hCl : C.length ≤ 8) (hz : z0 = 90 ∨ z0 = 43 ∨ z0 = 45) (hZ : ∀ c ∈ Z, 48 ≤ c ∧ c ≤ 58) (hZl : Z.length ≤ 5) (hc : clockF (strOfNums C) ext = (sec, true, 0)) (hsec : 0 ≤ sec ∧ sec ≤ 86400)
    (hzn : cal_zone.f 100 (strOfNums (z0 :: Z)) ext = some (v, true, 0)) (hvb : -1439 ≤ v ∧ v ≤ 1439) (hr : 0 ≤ num y m d * 86400 + sec - 60 * v ∧ num y m d * 86400 + sec - 60 * v ≤ 315569519999) :
    cal_ParseInstant.f (strOfNums (L ++ (84 :: (C ++ z0 :: Z)))) = some (num y m d * 86400 + sec - 60 * v, 0, 0) := by
  have e0 : strOfNums (L ++ (84 :: (C ++ z0 :: Z))) = strOfNums L ++ ((⟨#[84]⟩ : ByteArray) ++ strOfNums (C ++ z0 :: Z)) := by
    rw [show (⟨#[84]⟩ : ByteArray) = strOfNums [84] from rfl, nums_app, nums_app]; rfl
  have ka := kA_nums (Z := Z) hC hz
  have szR : (strOfNums (C ++ z0 :: Z)).size = C.length + (1 + Z.length) := by rw [strOfNums_size, List.length_append, List.length_cons]; omega
  have hh : hrs (strOfNums (C ++ z0 :: Z)) = strOfNums C := by
    unfold hrs
    rw [ka, if_pos (by omega), Int.toNat_natCast, ext_nums']; simp
  have hz' : (strOfNums (C ++ z0 :: Z)).extract (kA (strOfNums (C ++ z0 :: Z))).toNat (strOfNums (C ++ z0 :: Z)).size = strOfNums (z0 :: Z) := by
    rw [ka, Int.toNat_natCast, ext_nums', List.take_of_length_le (by rw [strOfNums_size]; exact Nat.le_refl _), List.drop_left]
  have ho : odd8 (strOfNums (C ++ z0 :: Z)) = false := odd8_nums (fun c hc => by
    rcases List.mem_append.1 hc with hc | hc
    · have := hC c hc; omega
    · rcases List.mem_cons.1 hc with rfl | hc
      · omega
      · have := hZ c hc; omega)
  rw [e0, inst_TX hL (by omega) (by omega) hx hd ho sec true 0 (by rw [hh]; exact hc), if_neg (by omega), if_neg (by decide), hz', hzn, if_neg (by omega)]
  simp only [Option.bind_some]
  unfold inst4
  rw [if_neg (by simp; omega), if_neg (by simp), number_eq y m d hv]
  simp only [Option.bind_some]
  rw [if_neg (by omega)]
section
variable {y m d h mi s z : Int}
theorem zE_len (z : Int) : (zE z).length = if z = 0 then 1 else 6 := by
  unfold zE
  by_cases a : z = 0
  · simp [a]
  · by_cases b : z < 0 <;> simp [a, b, znE, D2]
theorem read_E (hv : vldB y m d = true) (hh : 0 ≤ h ∧ h ≤ 23) (hm : 0 ≤ mi ∧ mi ≤ 59) (hs : 0 ≤ s ∧ s ≤ 59) (hz : -1439 ≤ z ∧ z ≤ 1439) (hr : 0 ≤ num y m d * 86400 + (h * 3600 + mi * 60 + s) - 60 * z ∧ num y m d * 86400 + (h * 3600 + mi * 60 + s) - 60 * z ≤ 315569519999) :
    cal_ParseInstant.f (strOfNums (tE y m d h mi s z)) = some (num y m d * 86400 + (h * 3600 + mi * 60 + s) - 60 * z, 0, 0) := by
  obtain ⟨v1, v2, v3, v4, v5, v6⟩ := vld_out hv
  have hdm := dim_bd y m v3 v4
  have n0 : noT (T0 y m d) := noT_app (noT_app (noT_app (noT_app (noT_D4 ⟨v1, v2⟩) noT_45) (noT_D2 (by omega))) noT_45) (noT_D2 (by omega))
  have l0 : (T0 y m d).length ≤ 10 := by simp [T0, D4, D2]
  have x0 : decide (0 ≤ Lib.indexByte (strOfNums (T0 y m d)).data.toList 45) = true := dash0 (by simp [T0])
  have p0 : cal_ParseDate.f (strOfNums (T0 y m d)) = some (y, m, d, 0, 0) := parse_TL hv 0 (by omega) (fun q => absurd q (by omega))
  have c8 : (ckE h mi s).length ≤ 8 := by simp [ckE, D2]
  have znb : ∀ g a b : Int, 0 ≤ a ∧ a ≤ 23 → 0 ≤ b ∧ b ≤ 59 → ∀ c ∈ znE g a b, 48 ≤ c ∧ c ≤ 58 := by intro g a b ha hb c hc; simp [znE, D2] at hc; omega
  have znl : ∀ g a b : Int, (znE g a b).length ≤ 5 := by intro g a b; simp [znE, D2]
  unfold tE zE
  by_cases a0 : z = 0
  · subst a0
    rw [if_pos rfl]
    exact read_C n0 l0 x0 p0 hv (okE hh hm hs) c8 (.inl rfl) (by simp) (by simp) (clockE hh hm hs) (by omega) (by decide +kernel) (by omega) (by omega)
  rw [if_neg a0]
  by_cases a1 : z < 0
  · rw [if_pos a1]
    have hz' := zoneE (a := -z / 60) (b := -z % 60) (g := 45) (by omega) (by omega) (.inr ⟨rfl, by omega⟩)
    rw [show zv 45 (-z / 60) (-z % 60) = z by unfold zv; rw [if_neg (by omega)]; omega] at hz'
    exact read_C n0 l0 x0 p0 hv (okE hh hm hs) c8 (.inr (.inr rfl)) (znb _ _ _ (by omega) (by omega)) (znl _ _ _) (clockE hh hm hs) (by omega) hz' (by omega) (by omega)
  · rw [if_neg a1]
    have hz' := zoneE (a := z / 60) (b := z % 60) (g := 43) (by omega) (by omega) (.inl rfl)
    rw [show zv 43 (z / 60) (z % 60) = z by unfold zv; rw [if_pos rfl]; omega] at hz'
    exact read_C n0 l0 x0 p0 hv (okE hh hm hs) c8 (.inr (.inl rfl)) (znb _ _ _ (by omega) (by omega)) (znl _ _ _) (clockE hh hm hs) (by omega) hz' (by omega) (by omega)
theorem read_B (hv : vldB y m d = true) (hh : 0 ≤ h ∧ h ≤ 23) (hm : 0 ≤ mi ∧ mi ≤ 59) (hs : 0 ≤ s ∧ s ≤ 59) (hz : -1439 ≤ z ∧ z ≤ 1439) (hr : 0 ≤ num y m d * 86400 + (h * 3600 + mi * 60 + s) - 60 * z ∧ num y m d * 86400 + (h * 3600 + mi * 60 + s) - 60 * z ≤ 315569519999) :
    cal_ParseInstant.f (strOfNums (tB y m d h mi s z)) = some (num y m d * 86400 + (h * 3600 + mi * 60 + s) - 60 * z, 0, 0) := by
  obtain ⟨v1, v2, v3, v4, v5, v6⟩ := vld_out hv
  have hdm := dim_bd y m v3 v4
  have n0 : noT (T1 y m d) := noT_app (noT_app (noT_D4 ⟨v1, v2⟩) (noT_D2 (by omega))) (noT_D2 (by omega))
  have l0 : (T1 y m d).length ≤ 10 := by simp [T1, D4, D2]
  have x0 : decide (0 ≤ Lib.indexByte (strOfNums (T1 y m d)).data.toList 45) = false := by
    refine dash1 fun c hc => ⟨(n0 c hc).1, (n0 c hc).2.1, ?_⟩
    simp [T1, D4, D2] at hc; omega
  have p0 : cal_ParseDate.f (strOfNums (T1 y m d)) = some (y, m, d, 0, 0) := parse_TL hv 1 (by omega) (fun q => absurd q (by omega))
  have c8 : (ckB h mi s).length ≤ 8 := by simp [ckB, D2]
  have znb : ∀ g a b : Int, 0 ≤ a ∧ a ≤ 23 → 0 ≤ b ∧ b ≤ 59 → ∀ c ∈ znB g a b, 48 ≤ c ∧ c ≤ 58 := by intro g a b ha hb c hc; simp [znB, D2] at hc; omega
  have znl : ∀ g a b : Int, (znB g a b).length ≤ 5 := by intro g a b; simp [znB, D2]
  unfold tB zB
  by_cases a0 : z = 0
  · subst a0
    rw [if_pos rfl]
    exact read_C n0 l0 x0 p0 hv (okB hh hm hs) c8 (.inl rfl) (by simp) (by simp) (clockB hh hm hs) (by omega) (by decide +kernel) (by omega) (by omega)
  rw [if_neg a0]
  by_cases a1 : z < 0
  · rw [if_pos a1]
    have hz' := zoneB (a := -z / 60) (b := -z % 60) (g := 45) (by omega) (by omega) (.inr ⟨rfl, by omega⟩)
    rw [show zv 45 (-z / 60) (-z % 60) = z by unfold zv; rw [if_neg (by omega)]; omega] at hz'
    exact read_C n0 l0 x0 p0 hv (okB hh hm hs) c8 (.inr (.inr rfl)) (znb _ _ _ (by omega) (by omega)) (znl _ _ _) (clockB hh hm hs) (by omega) hz' (by omega) (by omega)
  · rw [if_neg a1]
    have hz' := zoneB (a := z / 60) (b := z % 60) (g := 43) (by omega) (by omega) (.inl rfl)
    rw [show zv 43 (z / 60) (z % 60) = z by unfold zv; rw [if_pos rfl]; omega] at hz'
    exact read_C n0 l0 x0 p0 hv (okB hh hm hs) c8 (.inr (.inl rfl)) (znb _ _ _ (by omega) (by omega)) (znl _ _ _) (clockB hh hm hs) (by omega) hz' (by omega) (by omega)
end
/-- what PrintInstant prints -/
theorem print_eq (k : Nat) (hk : 30009 ≤ k) (a z : Int) (ha : 0 ≤ a ∧ a ≤ 315569519999) (hz : -1439 ≤ z ∧ z ≤ 1439) {x : Int} (hx : a + 60 * z = x) (h0 : 0 ≤ x) (h1 : x ≤ 315569519999) {y m d : Int} (hv : vldB y m d = true) (hn : num y m d = x / 86400) :
    cal_PrintInstant.f k a z = some (strOfNums (tE y m d (x % 86400 / 3600) (x % 86400 / 60 % 60) (x % 86400 % 60) z), 0) := by
  obtain ⟨k, rfl⟩ : ∃ q, k = q + 3 := ⟨k - 3, by omega⟩
  obtain ⟨v1, v2, v3, v4, v5, v6⟩ := vld_out hv
  have vd := dim_bd y m v3 v4
  unfold cal_PrintInstant.f
  rw [if_neg (by omega), decide_eq_false (show ¬ a > 315569519999 by omega), cal_PrintInstant.j0]
  simp only [Bool.false_eq_true, if_false]
  rw [if_neg (by omega), if_neg (by omega), w64 (x := 60 * z) (by omega) (by omega), w64 (x := a + 60 * z) (by omega) (by omega), hx, if_neg (by omega), decide_eq_false (show ¬ x > 315569519999 by omega), cal_PrintInstant.j1]
  have q1 := date_eq (Y := y) (M := m) (D := d) (k + 1) (by omega) hv
  rw [hn] at q1
  have q3 := cprint_eq (k + 1) (by omega) y m d 0
  have q4 : pd y m d (num y m d) 0 = (P y 4 ++ (⟨#[45]⟩ : ByteArray) ++ P m 2 ++ (⟨#[45]⟩ : ByteArray) ++ P d 2, 0) := by
    unfold pd; rw [if_neg (by omega), if_pos rfl]
  rw [hv, if_pos rfl, q4, P4_eq ⟨v1, v2⟩, P2_eq (n := m) (by omega), P2_eq (n := d) (by omega), show (⟨#[45]⟩ : ByteArray) = strOfNums [45] from rfl] at q3
  simp only [nums_app] at q3
  have zz : (strOfNums (D4 y ++ [45] ++ D2 m ++ [45] ++ D2 d)).size = 10 := by rw [strOfNums_size]; simp [D4, D2]
  have pp : ∀ n : Int, 0 ≤ n ∧ n ≤ 99 → cal_pad.f (k + 1) n 2 = some (strOfNums (D2 n)) := by
    intro n h
    rw [pad_eq (k + 1) n 2 (by omega) (by omega) (by omega) (by omega) (by omega), P2_eq h]
  have p2 : ∀ n : Int, (strOfNums (D2 n)).size = 2 := by intro n; rw [strOfNums_size]; simp [D2]
  simp only [Bool.false_eq_true, if_false]
  rw [td x _ h0, w64 (x := x / 86400) (by omega) (by omega), q1]
  simp only [Option.bind_some, q3]
  rw [tm x _ h0, td _ _ (by omega), w64 (x := x % 86400 / 3600) (by omega) (by omega), td _ _ (by omega), w64 (x := x % 86400 / 60) (by omega) (by omega), tm _ 60 (by omega), tm _ 60 (by omega)]
  rw [pp (x % 86400 / 3600) (by omega), pp (x % 86400 / 60 % 60) (by omega), pp (x % 86400 % 60) (by omega)]
  simp only [Option.bind_some, zz, p2]
  repeat rw [if_pos (by omega)]
  have s1 : (⟨#[84]⟩ : ByteArray) = strOfNums [84] := rfl
  have s2 : (⟨#[58]⟩ : ByteArray) = strOfNums [58] := rfl
  have s3 : (⟨#[90]⟩ : ByteArray) = strOfNums [90] := rfl
  have s4 : (⟨#[45]⟩ : ByteArray) = strOfNums [45] := rfl
  have s5 : (⟨#[43]⟩ : ByteArray) = strOfNums [43] := rfl
  by_cases a0 : z = 0
  · simp only [if_pos a0]
    repeat rw [if_pos (by omega)]
    rw [s1, s2, s3]
    simp only [nums_app]
    simp [tE, zE, a0, T0, ckE, D4, D2]
  simp only [if_neg a0]
  by_cases a1 : z < 0
  · simp only [if_pos a1]
    rw [w64 (x := -z) (by omega) (by omega), td (-z) 60 (by omega), tm (-z) 60 (by omega), w64 (x := -z / 60) (by omega) (by omega)]
    rw [pp (-z / 60) (by omega), pp (-z % 60) (by omega)]
    simp only [Option.bind_some, p2]
    repeat rw [if_pos (by omega)]
    rw [s1, s2, s4]
    simp only [nums_app]
    simp [tE, zE, a0, a1, T0, ckE, znE, D4, D2]
  simp only [if_neg a1]
  rw [td z 60 (by omega), tm z 60 (by omega), w64 (x := z / 60) (by omega) (by omega)]
  rw [pp (z / 60) (by omega), pp (z % 60) (by omega)]
  simp only [Option.bind_some, p2]
  repeat rw [if_pos (by omega)]
  rw [s1, s2, s5]
  simp only [nums_app]
  simp [tE, zE, a0, a1, T0, ckE, znE, D4, D2]
end Go.Proofs.YtiklakkkgmilnaaDoor.CalP
set_option linter.unusedSimpArgs false
set_option linter.unusedVariables false
namespace Go.Proofs.YtiklakkkgmilnaaDoor.CalP
open Go.RowKit Go.IntWalk Go.Proofs.YtiklakkkgmilnaaDoorW.PrintWords Go.Proofs.YtiklakkkgmilnaaDoor.Ext Go.Proofs.YtiklakkkgmilnaaDoor.GC

def runL : List Int → RS → Option RS
  | [], r => some r
  | c :: l, r => if (takeF r c).1 = true then runL l (takeF r c).2 else none
def bts (s : ByteArray) : List Int := s.data.toList.map fun b => (b.toNat : Int)
theorem bts_app (a b : ByteArray) : bts (a ++ b) = bts a ++ bts b := by simp [bts]
theorem bts_len (s : ByteArray) : (bts s).length = s.size := by simp [bts]
theorem bts_at (s : ByteArray) (i : Nat) (h : i < s.size) : (bts s)[i]'(by rw [bts_len]; exact h) = bt s i := by
  rw [← bt_at s i h]
  simp only [bts, List.getElem_map, Array.getElem_toList]
  rfl
theorem bts_inj {a b : ByteArray} (h : bts a = bts b) : a = b := by
  have hi : Function.Injective (fun b : UInt8 => (b.toNat : Int)) := fun x y e => UInt8.toNat_inj.1 (Int.ofNat.inj e)
  have := (List.map_inj_right (fun x y e => hi e)).1 h
  exact ByteArray.ext (Array.ext' this)
theorem runL_app (a b : List Int) (r : RS) : runL (a ++ b) r = (runL a r).bind (runL b) := by
  induction a generalizing r with
  | nil => rfl
  | cons c a ih =>
    simp only [List.cons_append, runL]
    split
    · exact ih _
    · rfl
theorem loopF_run (s : ByteArray) : ∀ (m i : Nat) (r r' : RS), i + m = s.size → runL ((bts s).drop i) r = some r' → loopF s m r i = finF s r' := by
  intro m
  induction m with
  | zero =>
    intro i r r' hi h
    rw [List.drop_of_length_le (by rw [bts_len]; omega)] at h
    cases h; rfl
  | succ m ih =>
    intro i r r' hi h
    rw [List.drop_eq_getElem_cons (by rw [bts_len]; omega), bts_at s i (by omega), runL] at h
    rw [loopF]
    by_cases ht : (takeF r (bt s i)).1 = true
    · rw [if_pos ht] at h ⊢
      exact ih (i + 1) _ r' (by omega) h
    · rw [if_neg ht] at h; cases h
/-- a number's digits are read as that number -/
theorem run_pad (r : RS) (h1 : r.en = false) (h2 : ¬ r.nx ≥ r.to) (h3 : r.hs = 0) (h4 : r.n = 0) :
    ∀ (k f : Nat) (n d : Int), k ≤ 9 → k ≤ f → 0 < n → n < 10 ^ k → d ≤ 1 → ∃ L : Nat, 1 ≤ L ∧ L ≤ k ∧ (padS f n d).size = L ∧ runL (bts (padS f n d)) r = some { r with n := n, hs := L } := by
  intro k
  induction k with
  | zero => intro f n d _ _ a b; simp at b; omega
  | succ k ih =>
    intro f n d hk hf a b hd
    obtain ⟨f, rfl⟩ : ∃ g, f = g + 1 := ⟨f - 1, by omega⟩
    have e : padS (f + 1) n d = padS f (n / 10) (d - 1) ++ dg n := by rw [padS, if_pos (.inl a)]
    have bd : bts (dg n) = [48 + n % 10] := by
      unfold dg bts strOfNums
      simp
      omega
    have hp : (10 : Int) ^ (k + 1) = 10 ^ k * 10 := Int.pow_succ ..
    have step : ∀ (q : RS), q.en = false → ¬ q.nx ≥ q.to → q.hs ≠ 9 → runL [48 + n % 10] q = some { q with n := 10 * q.n + n % 10, hs := q.hs + 1 } := by
      intro q a1 a2 a3
      have T : takeF q (48 + n % 10) = (true, { q with n := 10 * q.n + (48 + n % 10 - 48), hs := q.hs + 1 }) :=
        (if_pos (by omega)).trans (if_neg (by rintro (e | e | e)
                                              · rw [a1] at e; cases e
                                              · exact a2 e
                                              · exact a3 e))
      rw [runL, T]
      simp only [if_true, runL]
      rw [show 48 + n % 10 - 48 = n % 10 by omega]
    by_cases hz : n / 10 = 0
    · refine ⟨1, by omega, by omega, ?_, ?_⟩
      · rw [e, hz]
        have : padS f 0 (d - 1) = (⟨#[]⟩ : ByteArray) := by
          cases f with
          | zero => rfl
          | succ f => rw [padS, if_neg (by omega)]
        rw [this, nil_app, dg_size]
      · rw [e, hz]
        have : padS f 0 (d - 1) = (⟨#[]⟩ : ByteArray) := by
          cases f with
          | zero => rfl
          | succ f => rw [padS, if_neg (by omega)]
        rw [this, nil_app, bd, step r h1 h2 (by omega), h4, h3]
        congr 2
        omega
    · obtain ⟨L, L1, L2, L3, L4⟩ := ih f (n / 10) (d - 1) (by omega) (by omega) (by omega) (by omega) (by omega)
      refine ⟨L + 1, by omega, by omega, ?_, ?_⟩
      · rw [e, ByteArray.size_append, L3, dg_size]
      · rw [e, bts_app, runL_app, L4, bd]
        simp only [Option.bind_some]
        rw [step _ (by exact h1) (by exact h2) (by show (L : Int) ≠ 9; omega)]
        congr 2
        show 10 * (n / 10) + n % 10 = n
        omega
theorem run_P (r : RS) (h1 : r.en = false) (h2 : ¬ r.nx ≥ r.to) (h3 : r.hs = 0) (h4 : r.n = 0) (n : Int) (a : 0 < n) (b : n ≤ 999999999) :
    ∃ L : Nat, 1 ≤ L ∧ L ≤ 9 ∧ (P n 1).size = L ∧ runL (bts (P n 1)) r = some { r with n := n, hs := L } :=
  run_pad r h1 h2 h3 h4 9 20 n 1 (by omega) (by omega) a (show n < 10 ^ 9 by omega) (by omega)
theorem bts_ltr (k : Nat) : k < 6 → bts (ltr k) = [L k] := by
  intro hk
  match k, hk with
  | 0, _ => rfl
  | 1, _ => rfl
  | 2, _ => rfl
  | 3, _ => rfl
  | 4, _ => rfl
  | 5, _ => rfl
theorem L_ne (k : Nat) : k < 6 → L k ≠ 87 ∧ ¬ (48 ≤ L k ∧ L k ≤ 57) := by
  intro hk
  match k, hk with
  | 0, _ => decide
  | 1, _ => decide
  | 2, _ => decide
  | 3, _ => decide
  | 4, _ => decide
  | 5, _ => decide
theorem fnd_u (j k : Nat) (h : j ≤ k ∧ k < 3) : fnd (L k) (3 - j) j = some k := by
  match j, k, h with
  | 0, 0, _ => decide
  | 0, 1, _ => decide
  | 0, 2, _ => decide
  | 1, 1, _ => decide
  | 1, 2, _ => decide
  | 2, 2, _ => decide
  | j, k + 3, h => omega
  | 1, 0, h => omega
  | 2, 0, h => omega
  | 2, 1, h => omega
  | j + 3, k, h => omega
theorem fnd_t (j k : Nat) (h : 3 ≤ j ∧ j ≤ k ∧ k < 6) : fnd (L k) (6 - j) j = some k := by
  obtain ⟨h1, h2, h3⟩ := h
  match j, k with
  | 3, 3 => decide
  | 3, 4 => decide
  | 3, 5 => decide
  | 4, 4 => decide
  | 4, 5 => decide
  | 5, 5 => decide
  | 0, k => omega
  | 1, k => omega
  | 2, k => omega
  | j, k + 6 => omega
  | 3, 0 => omega
  | 3, 1 => omega
  | 3, 2 => omega
  | 4, 0 => omega
  | 4, 1 => omega
  | 4, 2 => omega
  | 4, 3 => omega
  | 5, 0 => omega
  | 5, 1 => omega
  | 5, 2 => omega
  | 5, 3 => omega
  | 5, 4 => omega
  | j + 6, k => omega
/-- the reader behind k printed parts -/
structure St (y mo d h mi s : Int) (k : Nat) (r : RS) : Prop where
  fy : r.y = if 0 < k then y else 0
  fmo : r.mo = if 1 < k then mo else 0
  fd : r.d = if 2 < k then d else 0
  fh : r.h = if 3 < k then h else 0
  fmi : r.mi = if 4 < k then mi else 0
  fs : r.s = if 5 < k then s else 0
  wk : r.wk = 0
  en : r.en = false
  n : r.n = 0
  hs : r.hs = 0
  n0 : 0 ≤ r.nx
  nk : r.nx ≤ 3 ∨ r.nx ≤ k
  nt : r.ti = true → 3 ≤ r.nx
  nu : r.ti = false → r.nx ≤ 3 ∧ r.nx ≤ k
  ti : r.ti = decide (3 < k ∧ 0 < h + mi + s)
  em : r.em = (r.ti && decide (pS y mo d h mi s k = pS y mo d h mi s 3))
  bg : r.bg = decide (0 < pS y mo d h mi s k)
/-- a number and its letter -/
theorem run_part (r : RS) (k : Nat) (hk : k < 6) (h1 : r.en = false) (h3 : r.hs = 0) (h4 : r.n = 0) (h0 : 0 ≤ r.nx) (hx : r.nx ≤ k) (ht : if r.ti = true then 3 ≤ r.nx else k < 3) (n : Int) (a : 0 < n) (b : n ≤ 999999999) :
    ∃ L : Nat, 1 ≤ L ∧ L ≤ 9 ∧ (P n 1).size = L ∧ runL (bts (P n 1 ++ ltr k)) r = some ({ r with n := n, hs := L }.part k) := by
  have h2 : ¬ r.nx ≥ r.to := by
    unfold RS.to
    cases e : r.ti
    · rw [e] at ht; simp at ht ⊢; omega
    · rw [e] at ht; simp at ht ⊢; omega
  obtain ⟨L', l1, l2, l3, l4⟩ := run_P r h1 h2 h3 h4 n a b
  refine ⟨L', l1, l2, l3, ?_⟩
  rw [bts_app, runL_app, l4, bts_ltr k hk]
  simp only [Option.bind_some]
  obtain ⟨q1, q2⟩ := L_ne k hk
  obtain ⟨y, mo, wk, d, h, mi, s, nx, bg, ti, em, en, n', hs⟩ := r
  simp only at *
  obtain ⟨j, rfl⟩ : ∃ j : Nat, nx = j := ⟨nx.toNat, by omega⟩
  have T : takeF ⟨y, mo, wk, d, h, mi, s, j, bg, ti, em, en, n, L'⟩ (L k) = (true, RS.part ⟨y, mo, wk, d, h, mi, s, j, bg, ti, em, en, n, L'⟩ k) := by
    have A : takeF ⟨y, mo, wk, d, h, mi, s, j, bg, ti, em, en, n, L'⟩ (L k) = letF ⟨y, mo, wk, d, h, mi, s, j, bg, ti, em, en, n, L'⟩ (L k) := (if_neg q2).trans (if_pos (show (L' : Int) > 0 by omega))
    rw [A]
    unfold letF
    rw [if_neg q1]
    have F : fnd (L k) (RS.to ⟨y, mo, wk, d, h, mi, s, j, bg, ti, em, en, n, L'⟩ - ((j : Int)).toNat) ((j : Int)).toNat = some k := by
      cases ti
      · simp at ht; exact fnd_u j k (by omega)
      · simp at ht; exact fnd_t j k (by omega)
    simp only [F]
  rw [runL, T]
  rfl
theorem St.step {y mo d h mi s : Int} (hok : allOk y mo d h mi s = true) {k : Nat} (hk : k < 6) {r : RS} (H : St y mo d h mi s k r) :
    ∃ (t : List Int) (r' : RS), bts (outs y mo d h mi s (k + 1)) = bts (outs y mo d h mi s k) ++ t ∧ t.length ≤ (if k = 3 then 11 else 10) ∧ runL t r = some r' ∧ St y mo d h mi s (k + 1) r' := by
  have hp : ∀ j, 0 ≤ pN y mo d h mi s j ∧ pN y mo d h mi s j ≤ 999999999 := fun j => of_all hok j
  have hS : pS y mo d h mi s (k + 1) = pS y mo d h mi s k + pN y mo d h mi s k := rfl
  have p0 : 0 ≤ y := (hp 0).1
  have p1 : 0 ≤ mo := (hp 1).1
  have p2 : 0 ≤ d := (hp 2).1
  have p3 : 0 ≤ h := (hp 3).1
  have p4 : 0 ≤ mi := (hp 4).1
  have p5 : 0 ≤ s := (hp 5).1
  have hbd := (pS_bd (y := y) (mo := mo) (d := d) (h := h) (mi := mi) (s := s) k (fun j _ => hp j)).1
  have hpk := hp k
  -- the T
  have HT : ∃ (t : List Int) (r1 : RS), bts (if k = 3 ∧ h + mi + s > 0 then outs y mo d h mi s k ++ (⟨#[84]⟩ : ByteArray) else outs y mo d h mi s k) = bts (outs y mo d h mi s k) ++ t ∧ t.length ≤ (if k = 3 then 1 else 0) ∧ runL t r = some r1 ∧
      r1 = (if k = 3 ∧ h + mi + s > 0 then { r with nx := 3, ti := true, em := true } else r) := by
    by_cases c : k = 3 ∧ h + mi + s > 0
    · rw [if_pos c]
      have ht : r.ti = false := by rw [H.ti, decide_eq_false]; omega
      refine ⟨[84], { r with nx := 3, ti := true, em := true }, by rw [bts_app]; rfl, by rw [if_pos c.1]; simp, ?_, (if_pos c).symm⟩
      have T : takeF r 84 = (true, { r with nx := 3, ti := true, em := true }) := by
        unfold takeF
        rw [if_neg (by decide), if_neg (show ¬ r.hs > 0 by rw [H.hs]; decide), if_pos ⟨rfl, ht, H.en⟩]
      rw [runL, T]; rfl
    · rw [if_neg c]
      exact ⟨[], r, by simp, by simp, rfl, (if_neg c).symm⟩
  obtain ⟨t1, r1, e1, len1, run1, hr1⟩ := HT
  by_cases hn : pN y mo d h mi s k > 0
  · have k3 : 3 ≤ k → 0 < h + mi + s := by
      intro q
      unfold pN at hn
      match k, hk with
      | 3, _ => simp at hn; omega
      | 4, _ => simp at hn; omega
      | 5, _ => simp at hn; omega
      | 0, _ => omega
      | 1, _ => omega
      | 2, _ => omega
    have ht1 : r1.ti = decide (3 ≤ k) := by
      rw [hr1]
      by_cases c : k = 3 ∧ h + mi + s > 0
      · rw [if_pos c, decide_eq_true (by omega)]
      · rw [if_neg c, H.ti]
        by_cases q : 3 < k
        · rw [decide_eq_true ⟨q, k3 (by omega)⟩, decide_eq_true (by omega)]
        · have : ¬ 3 ≤ k := fun z => c ⟨by omega, k3 z⟩
          rw [decide_eq_false (fun z => q z.1), decide_eq_false this]
    have hx1 : 0 ≤ r1.nx ∧ r1.nx ≤ k ∧ (3 ≤ k → 3 ≤ r1.nx) := by
      rw [hr1]
      by_cases c : k = 3 ∧ h + mi + s > 0
      · rw [if_pos c]; simp only; omega
      · rw [if_neg c]
        have a0 := H.n0
        by_cases q : 3 ≤ k
        · have : 3 < k := by have := k3 q; omega
          have tt : r.ti = true := by rw [H.ti, decide_eq_true ⟨this, k3 q⟩]
          have := H.nt tt
          have := H.nk
          omega
        · have tt : r.ti = false := by rw [H.ti, decide_eq_false (by omega)]
          have := H.nu tt
          omega
    have q1 : r1.en = false := by rw [hr1]; split <;> exact H.en
    have q2 : r1.hs = 0 := by rw [hr1]; split <;> exact H.hs
    have q3 : r1.n = 0 := by rw [hr1]; split <;> exact H.n
    obtain ⟨L', l1, l2, l3, l4⟩ := run_part r1 k hk q1 q2 q3 hx1.1 hx1.2.1 (by
      rw [ht1]; split
      · rename_i z; simp at z; exact hx1.2.2 z
      · rename_i z; simp at z; omega) (pN y mo d h mi s k) hn hpk.2
    refine ⟨t1 ++ bts (P (pN y mo d h mi s k) 1 ++ ltr k), _, ?_, ?_, (runL_app _ _ _).trans (by rw [run1]; exact l4), ?_⟩
    · rw [outs, if_pos hn, bts_app, e1, List.append_assoc]
    · rw [List.length_append, bts_len, ByteArray.size_append, l3, ltr_size]
      split <;> rename_i z
      · rw [if_pos z] at len1; omega
      · rw [if_neg z] at len1; omega
    · have f1 : r1.y = r.y := by rw [hr1]; split <;> rfl
      have f2 : r1.mo = r.mo := by rw [hr1]; split <;> rfl
      have f3 : r1.d = r.d := by rw [hr1]; split <;> rfl
      have f4 : r1.h = r.h := by rw [hr1]; split <;> rfl
      have f5 : r1.mi = r.mi := by rw [hr1]; split <;> rfl
      have f6 : r1.s = r.s := by rw [hr1]; split <;> rfl
      have f7 : r1.wk = r.wk := by rw [hr1]; split <;> rfl
      have hpos : 0 < pS y mo d h mi s (k + 1) := by omega
      refine ⟨?_, ?_, ?_, ?_, ?_, ?_, ?_, q1, rfl, rfl, ?_, ?_, ?_, ?_, ?_, ?_, ?_⟩
      · show (if k = 0 then pN y mo d h mi s k else r1.y) = _
        rw [f1, H.fy]; match k, hk with
        | 0, _ => rfl
        | k + 1, _ => rfl
      · show (if k = 1 then pN y mo d h mi s k else r1.mo) = _
        rw [f2, H.fmo]; match k, hk with
        | 0, _ => rfl
        | 1, _ => rfl
        | k + 2, _ => simp
      · show (if k = 2 then pN y mo d h mi s k else r1.d) = _
        rw [f3, H.fd]; match k, hk with
        | 0, _ => rfl
        | 1, _ => rfl
        | 2, _ => rfl
        | k + 3, _ => simp
      · show (if k = 3 then pN y mo d h mi s k else r1.h) = _
        rw [f4, H.fh]; match k, hk with
        | 0, _ => rfl
        | 1, _ => rfl
        | 2, _ => rfl
        | 3, _ => rfl
        | k + 4, _ => simp
      · show (if k = 4 then pN y mo d h mi s k else r1.mi) = _
        rw [f5, H.fmi]; match k, hk with
        | 0, _ => rfl
        | 1, _ => rfl
        | 2, _ => rfl
        | 3, _ => rfl
        | 4, _ => rfl
        | 5, _ => rfl
      · show (if k = 5 then pN y mo d h mi s k else r1.s) = _
        rw [f6, H.fs]; match k, hk with
        | 0, _ => rfl
        | 1, _ => rfl
        | 2, _ => rfl
        | 3, _ => rfl
        | 4, _ => rfl
        | 5, _ => rfl
      · exact f7.trans H.wk
      · show 0 ≤ (k : Int) + 1; omega
      · right; show (k : Int) + 1 ≤ ((k + 1 : Nat) : Int); omega
      · intro z
        have z' : r1.ti = true := z
        rw [ht1] at z'; simp at z'
        show 3 ≤ (k : Int) + 1; omega
      · intro z
        have z' : r1.ti = false := z
        rw [ht1] at z'; simp at z'
        show (k : Int) + 1 ≤ 3 ∧ (k : Int) + 1 ≤ ((k + 1 : Nat) : Int); omega
      · show r1.ti = _
        rw [ht1]
        by_cases q : 3 ≤ k
        · have := k3 q
          rw [decide_eq_true q, decide_eq_true ⟨by omega, by omega⟩]
        · rw [decide_eq_false q, decide_eq_false (by omega)]
      · show false = (r1.ti && _)
        rw [ht1]
        by_cases q : 3 ≤ k
        · have mono : pS y mo d h mi s 3 ≤ pS y mo d h mi s k := by
            match k, hk with
            | 3, _ => exact Int.le_refl _
            | 4, _ => simp only [pS, pN]; simp; omega
            | 5, _ => simp only [pS, pN]; simp; omega
            | 0, _ => omega
            | 1, _ => omega
            | 2, _ => omega
          rw [decide_eq_false (show ¬ pS y mo d h mi s (k + 1) = pS y mo d h mi s 3 by omega)]; simp
        · rw [decide_eq_false q]; rfl
      · show true = _
        rw [decide_eq_true hpos]
  · have hz : pN y mo d h mi s k = 0 := by omega
    refine ⟨t1, r1, ?_, ?_, run1, ?_⟩
    · rw [outs, if_neg hn, e1]
    · split <;> rename_i z
      · rw [if_pos z] at len1; omega
      · rw [if_neg z] at len1; omega
    · rw [hr1]
      have e0 : pS y mo d h mi s (k + 1) = pS y mo d h mi s k := by omega
      have Y : r.y = if 0 < k + 1 then y else 0 := by
        rw [H.fy]; match k, hk with
        | 0, _ => simpa [pN] using hz.symm
        | k + 1, _ => simp
      have MO : r.mo = if 1 < k + 1 then mo else 0 := by
        rw [H.fmo]; match k, hk with
        | 0, _ => rfl
        | 1, _ => simpa [pN] using hz.symm
        | k + 2, _ => simp
      have D : r.d = if 2 < k + 1 then d else 0 := by
        rw [H.fd]; match k, hk with
        | 0, _ => rfl
        | 1, _ => rfl
        | 2, _ => simpa [pN] using hz.symm
        | k + 3, _ => simp
      have HH : r.h = if 3 < k + 1 then h else 0 := by
        rw [H.fh]; match k, hk with
        | 0, _ => rfl
        | 1, _ => rfl
        | 2, _ => rfl
        | 3, _ => simpa [pN] using hz.symm
        | k + 4, _ => simp
      have MI : r.mi = if 4 < k + 1 then mi else 0 := by
        rw [H.fmi]; match k, hk with
        | 0, _ => rfl
        | 1, _ => rfl
        | 2, _ => rfl
        | 3, _ => rfl
        | 4, _ => simpa [pN] using hz.symm
        | 5, _ => rfl
      have SS : r.s = if 5 < k + 1 then s else 0 := by
        rw [H.fs]; match k, hk with
        | 0, _ => rfl
        | 1, _ => rfl
        | 2, _ => rfl
        | 3, _ => rfl
        | 4, _ => rfl
        | 5, _ => simpa [pN] using hz.symm
      by_cases c : k = 3 ∧ h + mi + s > 0
      · rw [if_pos c]
        refine ⟨Y, MO, D, HH, MI, SS, H.wk, H.en, H.n, H.hs, (by show (0 : Int) ≤ 3; decide), .inl (Int.le_refl _), fun _ => Int.le_refl _, (fun e => by cases e), ?_, ?_, ?_⟩
        · show true = _
          rw [decide_eq_true ⟨by omega, by omega⟩]
        · show true = (true && _)
          rw [decide_eq_true]; · rfl
          · rw [e0, c.1]
        · show r.bg = _
          rw [H.bg, e0]
      · rw [if_neg c]
        have TI : r.ti = decide (3 < k + 1 ∧ 0 < h + mi + s) := by
          rw [H.ti]; apply decide_eq_decide.2
          constructor
          · rintro ⟨a, b⟩; exact ⟨by omega, b⟩
          · rintro ⟨a, b⟩; exact ⟨by omega, b⟩
        refine ⟨Y, MO, D, HH, MI, SS, H.wk, H.en, H.n, H.hs, H.n0, ?_, H.nt, ?_, TI, ?_, ?_⟩
        · have := H.nk; omega
        · intro z; have := H.nu z; omega
        · rw [H.em, e0]
        · rw [H.bg, e0]
theorem st_all {y mo d h mi s : Int} (hok : allOk y mo d h mi s = true) : ∀ k : Nat, k ≤ 6 → ∃ (t : List Int) (r : RS), bts (outs y mo d h mi s k) = 80 :: t ∧ t.length ≤ 10 * k + (if 3 < k then 1 else 0) ∧ runL t r0 = some r ∧ St y mo d h mi s k r := by
  intro k
  induction k with
  | zero =>
    intro _
    exact ⟨[], r0, rfl, by simp, rfl, rfl, rfl, rfl, rfl, rfl, rfl, rfl, rfl, rfl, rfl, Int.le_refl _, .inl (by decide), (fun e => by cases e), fun _ => ⟨by decide, by decide⟩, by simp [r0], rfl, by simp [r0, pS]⟩
  | succ k ih =>
    intro hk
    obtain ⟨t, r, e1, e2, e3, e4⟩ := ih (by omega)
    obtain ⟨t', r', f1, f2, f3, f4⟩ := e4.step hok (by omega)
    refine ⟨t ++ t', r', by rw [f1, e1]; rfl, ?_, by rw [runL_app, e3]; exact f3, f4⟩
    rw [List.length_append]
    repeat' split at e2 <;> repeat' split at f2 <;> repeat' split
    all_goals omega
/-- what is printed is read, byte by byte -/
theorem span_run {y mo wk d h mi s : Int} {t : ByteArray} (hf : cal_PrintSpan.f y mo wk d h mi s = some (t, 0)) :
    ∃ (l : List Int) (r : RS), bts t = 80 :: l ∧ l.length ≤ 62 ∧ runL l r0 = some r ∧ r.hs = 0 ∧ r.bg = true ∧ r.em = false ∧ r.y = y ∧ r.mo = mo ∧ r.wk = wk ∧ r.d = d ∧ r.h = h ∧ r.mi = mi ∧ r.s = s := by
  unfold cal_PrintSpan.f at hf
  by_cases ha : allOk y mo d h mi s = true
  · rw [if_pos ha] at hf
    have hp : ∀ j, 0 ≤ pN y mo d h mi s j ∧ pN y mo d h mi s j ≤ 999999999 := fun j => of_all ha j
    have p0 : 0 ≤ y := (hp 0).1
    have p1 : 0 ≤ mo := (hp 1).1
    have p2 : 0 ≤ d := (hp 2).1
    have p3 : 0 ≤ h := (hp 3).1
    have p4 : 0 ≤ mi := (hp 4).1
    have p5 : 0 ≤ s := (hp 5).1
    have hS : pS y mo d h mi s 6 = y + mo + d + h + mi + s := by simp [pS, pN]
    by_cases c : wk < 0 ∨ wk > 999999999 ∨ (wk > 0 ∧ pS y mo d h mi s 6 > 0)
    · rw [if_pos c] at hf; have := (Prod.mk.inj (Option.some.inj hf)).2; omega
    · rw [if_neg c] at hf
      by_cases c1 : wk > 0
      · rw [if_pos c1] at hf
        obtain ⟨rfl, _⟩ := Prod.mk.inj (Option.some.inj hf)
        obtain ⟨L', l1, l2, l3, l4⟩ := run_P r0 rfl (by decide) rfl rfl wk c1 (by omega)
        refine ⟨bts (P wk 1) ++ [87], { r0 with wk := wk, en := true, bg := true, n := 0, hs := 0 }, ?_, ?_, ?_, rfl, rfl, rfl, ?_, ?_, rfl, ?_, ?_, ?_, ?_⟩
        · rw [bts_app, bts_app]; rfl
        · rw [List.length_append, bts_len, l3]; simp; omega
        · rw [runL_app, l4]
          simp only [Option.bind_some]
          have T : takeF { r0 with n := wk, hs := (L' : Int) } 87 = (true, { r0 with wk := wk, en := true, bg := true, n := 0, hs := 0 }) := by
            unfold takeF
            rw [if_neg (by decide), if_pos (show (L' : Int) > 0 by omega)]
            rfl
          rw [runL, T]; rfl
        all_goals (show (0 : Int) = _; omega)
      · rw [if_neg c1] at hf
        by_cases c2 : pS y mo d h mi s 6 = 0
        · rw [if_pos c2] at hf
          obtain ⟨rfl, _⟩ := Prod.mk.inj (Option.some.inj hf)
          refine ⟨[84, 48, 83], ⟨0, 0, 0, 0, 0, 0, 0, 6, true, true, false, false, 0, 0⟩, rfl, by simp, rfl, rfl, rfl, rfl, ?_, ?_, ?_, ?_, ?_, ?_, ?_⟩
          all_goals (show (0 : Int) = _; omega)
        · rw [if_neg c2] at hf
          obtain ⟨rfl, _⟩ := Prod.mk.inj (Option.some.inj hf)
          obtain ⟨l, r, e1, e2, e3, e4⟩ := st_all ha 6 (Nat.le_refl _)
          have e2' : l.length ≤ 61 := by simpa using e2
          refine ⟨l, r, e1, by omega, e3, e4.hs, ?_, ?_, e4.fy, e4.fmo, ?_, e4.fd, e4.fh, e4.fmi, e4.fs⟩
          · rw [e4.bg, decide_eq_true (by omega)]
          · rw [e4.em, e4.ti]
            by_cases q : 0 < h + mi + s
            · rw [decide_eq_false (show ¬ pS y mo d h mi s 6 = pS y mo d h mi s 3 by simp [pS, pN]; omega)]; simp
            · rw [decide_eq_false (fun z => q z.2)]; rfl
          · rw [e4.wk]; omega
  · rw [if_neg ha] at hf; cases hf
theorem bt0 {t : ByteArray} {c : Int} {l : List Int} (h : bts t = c :: l) : t.size = l.length + 1 ∧ bt t 0 = c := by
  have hs : t.size = l.length + 1 := by rw [← bts_len, h]; rfl
  refine ⟨hs, ?_⟩
  have e := bts_at t 0 (by omega)
  refine e.symm.trans ?_
  simp [h]
theorem parse_of_run {t : ByteArray} {l : List Int} {r : RS} (h : bts t = 80 :: l) (hl : l.length ≤ 63) (hr : runL l r0 = some r) : cal_ParseSpan.f t = some (finF t r) := by
  obtain ⟨h1, h2⟩ := bt0 h
  unfold cal_ParseSpan.f
  have hn : ¬ (t.size = 0 ∨ bt t 0 ≠ 80) := fun e => e.elim (fun e => by omega) (fun e => e h2)
  rw [if_neg (by omega), if_neg hn, loopF_run t (t.size - 1) 1 r0 r (by omega) (by rw [h]; exact hr)]
/-- a printed span is read as itself -/
theorem span_back {y mo wk d h mi s : Int} {t : ByteArray} (hf : cal_PrintSpan.f y mo wk d h mi s = some (t, 0)) : cal_ParseSpan.f t = some (y, mo, wk, d, h, mi, s, 0, 0) := by
  obtain ⟨l, r, e1, e2, e3, e4, e5, e6, e7, e8, e9, e10, e11, e12, e13⟩ := span_run hf
  rw [parse_of_run e1 (by omega) e3]
  unfold finF
  rw [if_neg (by rw [e4, e5, e6]; decide), e7, e8, e9, e10, e11, e12, e13]
end Go.Proofs.YtiklakkkgmilnaaDoor.CalP
set_option linter.unusedVariables false
set_option linter.unusedSimpArgs false
namespace Go.Proofs.YtiklakkkgmilnaaDoor.CalP
open Go.RowKit Go.IntWalk Go.Proofs.YtiklakkkgmilnaaDoorW.PrintWords Go.Proofs.YtiklakkkgmilnaaDoor.Ext Go.Proofs.YtiklakkkgmilnaaDoor.PCal Go.Proofs.YtiklakkkgmilnaaDoor.GC

/-- no shape is the text's; the best agrees with B bytes -/
theorem shp_none (s : ByteArray) (B : Nat) : ∀ (L : List ByteArray) (i : Nat) (b : Nat), (∀ h ∈ L, fit s h ≤ B ∧ ¬ (fit s h = s.size ∧ fit s h = h.size)) → b ≤ B → ((∃ h ∈ L, fit s h = B) ∨ b = B) → shp s L i (b : Int) = (-1, (B : Int)) := by
  intro L
  induction L with
  | nil =>
    intro i b _ hb h
    rcases h with ⟨h, hm, _⟩ | rfl
    · cases hm
    · rfl
  | cons a l ih =>
    intro i b hL hb h
    have ha := hL a (List.mem_cons_self ..)
    rw [shp, if_neg ha.2, show mx (b : Int) (fit s a) = ((max b (fit s a) : Nat) : Int) by unfold mx; omega]
    refine ih (i + 1) _ (fun x hx => hL x (List.mem_cons_of_mem _ hx)) (by omega) ?_
    rcases h with ⟨x, hm, hx⟩ | rfl
    · rcases List.mem_cons.1 hm with rfl | hm
      · exact .inr (by omega)
      · exact .inl ⟨x, hm, hx⟩
    · exact .inr (by omega)
theorem fitN_all (s h : ByteArray) : ∀ (m i : Nat), i ≤ s.size → s.size ≤ i + m → (∀ j : Nat, i ≤ j → j < s.size → CalP.mt (bt s j) (bt h j) = true) → fitN s h m i = s.size := by
  intro m
  induction m with
  | zero => intro i h1 h2 _; show i = s.size; omega
  | succ m ih =>
    intro i h1 h2 hj
    rw [fitN]
    by_cases c : i < s.size
    · rw [if_pos ⟨c, hj i (Nat.le_refl _) c⟩]
      exact ih (i + 1) (by omega) (by omega) (fun j a b => hj j (by omega) b)
    · rw [if_neg (fun z => c z.1)]; omega
theorem fit_all {s h : ByteArray} (hz : s.size ≤ h.size) (hj : ∀ j : Nat, j < s.size → CalP.mt (bt s j) (bt h j) = true) : fit s h = s.size :=
  fitN_all s h h.size 0 (by omega) (by omega) (fun j _ b => hj j b)
/-- the shapes' signs: digit, stroke, W -/
theorem SH_sign : ∀ f : Nat, f < 6 → ∀ i : Nat, i < (SH.getD f ByteArray.empty).size → bt (SH.getD f ByteArray.empty) i = 100 ∨ bt (SH.getD f ByteArray.empty) i = 45 ∨ bt (SH.getD f ByteArray.empty) i = 87 := by decide
theorem SH_clash : ∀ f : Nat, f < 6 → ∀ j : Nat, j < 6 → (SH.getD j ByteArray.empty).size < (SH.getD f ByteArray.empty).size → (f = 1 ∧ j = 3) ∨ ∃ i : Fin 10, i.val < (SH.getD j ByteArray.empty).size ∧ bt (SH.getD f ByteArray.empty) (i.val : Nat) ≠ bt (SH.getD j ByteArray.empty) (i.val : Nat) := by decide
theorem mt_clash {c a b : Int} (ha : a = 100 ∨ a = 45 ∨ a = 87) (hb : b = 100 ∨ b = 45 ∨ b = 87) (hab : a ≠ b) (h1 : CalP.mt c a = true) (h2 : CalP.mt c b = true) : False := by
  unfold CalP.mt at h1 h2
  rcases ha with rfl | rfl | rfl <;> rcases hb with rfl | rfl | rfl <;> simp at h1 h2 hab <;> omega
theorem SH_mem {h : ByteArray} (hm : h ∈ SH) : ∃ j : Nat, j < 6 ∧ h = SH.getD j ByteArray.empty := by
  obtain ⟨j, hj, e⟩ := List.mem_iff_getElem.1 hm
  have hj6 : j < 6 := hj
  refine ⟨j, hj6, ?_⟩
  rw [List.getD_eq_getElem?_getD, List.getElem?_eq_getElem hj, ← e]; rfl
theorem SH_in {j : Nat} (hj : j < 6) : SH.getD j ByteArray.empty ∈ SH := by
  have h : j < SH.length := hj
  rw [List.getD_eq_getElem?_getD, List.getElem?_eq_getElem h]
  exact List.getElem_mem h
/-- a text with the f-th shape -/
structure Has (t : ByteArray) (f : Nat) : Prop where
  lt : f < 6
  size : t.size = (SH.getD f ByteArray.empty).size
  byte : ∀ i : Nat, i < t.size → CalP.mt (bt t i) (bt (SH.getD f ByteArray.empty) i) = true
theorem has_of {t : ByteArray} {f : Nat} (hf : f < 6) (h : shp t SH 0 0 = ((f : Int), 0)) : Has t f := by
  obtain ⟨j, hj, e1, e2, e3⟩ := shp_get t SH 0 0 (by rw [h]; show (0 : Int) ≤ f; omega)
  rw [h] at e1
  have : f = j := by have := (Prod.mk.inj e1).1; omega
  subst this
  have hg : SH.getD f ByteArray.empty = SH[f] := by rw [List.getD_eq_getElem?_getD, List.getElem?_eq_getElem hj]; rfl
  refine ⟨hf, by rw [hg, ← e3, e2], fun i hi => ?_⟩
  rw [hg]
  exact (fit_le t SH[f]).2.2 i (by omega)
theorem SH_sz : ∀ f : Nat, f < 6 → 7 ≤ (SH.getD f ByteArray.empty).size ∧ (SH.getD f ByteArray.empty).size ≤ 10 := by decide
section
variable {t : ByteArray} {f : Nat}
/-- cut: told where it ends, or a year's day -/
theorem date_cut (H : Has t f) (k : Nat) (hk : k < t.size) : cal_ParseDate.f (t.extract 0 k) = some (0, 0, 0, 31, (k : Int)) ∨ (f = 1 ∧ k = 7) := by
  have hz := SH_sz f H.lt
  have hs := H.size
  have ks : (t.extract 0 k).size = k := by rw [ByteArray.size_extract]; omega
  have kb : ∀ i : Nat, i < k → bt (t.extract 0 k) i = bt t i := fun i hi => by rw [bt_ext t 0 k i (by omega) (by omega), Nat.zero_add]
  by_cases q : f = 1 ∧ k = 7
  · exact .inr q
  refine .inl ?_
  have hn : shp (t.extract 0 k) SH 0 ((0 : Nat) : Int) = (-1, (k : Int)) := by
    refine shp_none _ k SH 0 0 (fun h hm => ⟨by have := (fit_le (t.extract 0 k) h).1; omega, ?_⟩) (by omega) (.inl ⟨_, SH_in H.lt, ?_⟩)
    · rintro ⟨z1, z2⟩
      obtain ⟨j, hj, rfl⟩ := SH_mem hm
      have hjs : (SH.getD j ByteArray.empty).size < (SH.getD f ByteArray.empty).size := by omega
      rcases SH_clash f H.lt j hj hjs with ⟨rfl, rfl⟩ | ⟨i, i1, i2⟩
      · have : (SH.getD 3 ByteArray.empty).size = 7 := rfl
        exact q ⟨rfl, by omega⟩
      · have m1 := H.byte i.val (by omega)
        have m2 := (fit_le (t.extract 0 k) (SH.getD j ByteArray.empty)).2.2 i.val (by omega)
        rw [kb i.val (by omega)] at m2
        exact mt_clash (SH_sign f H.lt i.val (by omega)) (SH_sign j hj i.val i1) i2 m1 m2
    · rw [fit_all (by omega) (fun j hj => by rw [kb j (by omega)]; exact H.byte j (by omega)), ks]
  have hn' : shp (t.extract 0 k) SH 0 0 = (-1, (k : Int)) := hn
  unfold cal_ParseDate.f
  rw [if_neg (by omega), hn', if_pos (by show (-1 : Int) < 0; omega)]
/-- a byte more: told there -/
theorem date_more (H : Has t f) : cal_ParseDate.f (t ++ (⟨#[33]⟩ : ByteArray)) = some (0, 0, 0, 31, (t.size : Int)) := by
  have hz := SH_sz f H.lt
  have hs := H.size
  have ks : (t ++ (⟨#[33]⟩ : ByteArray)).size = t.size + 1 := by rw [ByteArray.size_append]; rfl
  have kb : ∀ i : Nat, i < t.size → bt (t ++ (⟨#[33]⟩ : ByteArray)) i = bt t i := fun i hi => by
    have h1 : i < (t ++ (⟨#[33]⟩ : ByteArray)).size := by omega
    rw [← bt_at (t ++ (⟨#[33]⟩ : ByteArray)) (i : Int) h1, ← bt_at t (i : Int) hi]
    simp only [Int.toNat_natCast]
    rw [ByteArray.getElem_append_left hi]
  have kl : bt (t ++ (⟨#[33]⟩ : ByteArray)) (t.size : Int) = 33 := by
    have h1 : t.size < (t ++ (⟨#[33]⟩ : ByteArray)).size := by omega
    rw [← bt_at (t ++ (⟨#[33]⟩ : ByteArray)) (t.size : Int) h1]
    simp only [Int.toNat_natCast]
    rw [ByteArray.getElem_append_right (Nat.le_refl _)]
    simp
    rfl
  have hle : ∀ j : Nat, j < 6 → fit (t ++ (⟨#[33]⟩ : ByteArray)) (SH.getD j ByteArray.empty) ≤ t.size := by
    intro j hj
    by_cases c : fit (t ++ (⟨#[33]⟩ : ByteArray)) (SH.getD j ByteArray.empty) ≤ t.size
    · exact c
    · have fl := fit_le (t ++ (⟨#[33]⟩ : ByteArray)) (SH.getD j ByteArray.empty)
      have m := fl.2.2 t.size (by omega)
      rw [kl] at m
      rcases SH_sign j hj t.size (by omega) with e | e | e <;> (rw [e] at m; exact absurd m (by decide))
  have hn : shp (t ++ (⟨#[33]⟩ : ByteArray)) SH 0 ((0 : Nat) : Int) = (-1, (t.size : Int)) := by
    refine shp_none _ t.size SH 0 0 (fun h hm => ?_) (by omega) (.inl ⟨_, SH_in H.lt, ?_⟩)
    · obtain ⟨j, hj, rfl⟩ := SH_mem hm
      have := hle j hj
      exact ⟨this, fun z => by omega⟩
    · have a := hle f H.lt
      have b : ∀ m i : Nat, i + m = t.size → t.size ≤ fitN (t ++ (⟨#[33]⟩ : ByteArray)) (SH.getD f ByteArray.empty) m i := by
        intro m
        induction m with
        | zero => intro i hi; show t.size ≤ i; omega
        | succ m ih =>
          intro i hi
          rw [fitN, if_pos ⟨by omega, by rw [kb i (by omega)]; exact H.byte i (by omega)⟩]
          exact ih (i + 1) (by omega)
      have b0 := b t.size 0 (by omega)
      unfold fit at a ⊢
      rw [← H.size] at a ⊢
      omega
  have hn' : shp (t ++ (⟨#[33]⟩ : ByteArray)) SH 0 0 = (-1, (t.size : Int)) := hn
  unfold cal_ParseDate.f
  rw [if_neg (by omega), hn', if_pos (by show (-1 : Int) < 0; omega)]
end
/-- a year's day out of the first seven of eight digits -/
theorem date_seven {t : ByteArray} (H : Has t 1) : ∃ r1 r2 r3 e p : Int, cal_ParseDate.f (t.extract 0 7) = some (r1, r2, r3, e, p) ∧ (e = 0 ∨ (e = 30 ∧ p = 4)) := by
  have hs : t.size = 8 := H.size
  have ks : (t.extract 0 7).size = 7 := by rw [ByteArray.size_extract]; omega
  have kb : ∀ i : Nat, i < 7 → bt (t.extract 0 7) i = bt t i := fun i hi => by rw [bt_ext t 0 7 i (by omega) (by omega), Nat.zero_add]
  have dg : ∀ i : Nat, i < 7 → CalP.mt (bt (t.extract 0 7) i) 100 = true := by
    intro i hi
    have := H.byte i (by omega)
    rw [kb i hi]
    have e : bt (SH.getD 1 ByteArray.empty) i = 100 := by
      have : ∀ i : Nat, i < 7 → bt (SH.getD 1 ByteArray.empty) i = 100 := by decide
      exact this i hi
    rw [e] at this; exact this
  have f3 : fit (t.extract 0 7) (⟨#[100, 100, 100, 100, 100, 100, 100]⟩ : ByteArray) = 7 := by
    have := fit_all (s := t.extract 0 7) (h := ⟨#[100, 100, 100, 100, 100, 100, 100]⟩) (by rw [ks]; decide) (fun j hj => by
      have e : bt (⟨#[100, 100, 100, 100, 100, 100, 100]⟩ : ByteArray) j = 100 := by
        have : ∀ i : Nat, i < 7 → bt (⟨#[100, 100, 100, 100, 100, 100, 100]⟩ : ByteArray) i = 100 := by decide
        exact this j (by omega)
      rw [e]; exact dg j (by omega))
    rw [this, ks]
  have hsh : shp (t.extract 0 7) SH 0 0 = (3, 0) := by
    have fb : ∀ h : ByteArray, fit (t.extract 0 7) h ≤ 7 := fun h => by have := (fit_le (t.extract 0 7) h).1; omega
    unfold SH
    simp only [shp]
    rw [if_neg (by rw [ks]; rintro ⟨a, b⟩; rw [a] at b; exact absurd b (by decide)), if_neg (by rw [ks]; rintro ⟨a, b⟩; rw [a] at b; exact absurd b (by decide)), if_neg (by rw [ks]; rintro ⟨a, b⟩; rw [a] at b; exact absurd b (by decide)), if_pos ⟨by rw [ks]; exact f3, f3⟩]
    rfl
  have d0 := dig_of (h := ⟨#[100, 100, 100, 100, 100, 100, 100]⟩) f3 0 4 (by decide) (by decide)
  have b0 := nmv_bd (t.extract 0 7) 0 4 d0
  unfold cal_ParseDate.f
  rw [if_neg (by omega), hsh, if_neg (by show ¬ (3 : Int) < 0; omega)]
  have e : dateR (t.extract 0 7) 3 = ydR (nmv (t.extract 0 7) 0 4) (nmv (t.extract 0 7) 4 3) 4 := rfl
  show ∃ r1 r2 r3 e p : Int, some (dateR (t.extract 0 7) 3) = some (r1, r2, r3, e, p) ∧ _
  rw [e]
  generalize nmv (t.extract 0 7) 0 4 = y at *
  generalize nmv (t.extract 0 7) 4 3 = a at *
  have g1 := beg_bd y (by omega) (by omega)
  have g2 := beg_bd (y + 1) (by omega) (by omega)
  unfold ydR
  by_cases c : 1 ≤ a ∧ a ≤ beg (y + 1) - beg y
  · rw [if_pos c]
    obtain ⟨Y, M, D, hv, en⟩ := day_ex (beg y + a - 1) (by omega) (by omega)
    rw [← en, cof_in 30000 (Nat.le_refl _) hv]
    exact ⟨_, _, _, _, _, rfl, .inl rfl⟩
  · rw [if_neg c]
    exact ⟨_, _, _, _, _, rfl, .inr ⟨rfl, rfl⟩⟩
/-- the reader of spans stops at a byte that may not stand -/
theorem loopF_stop (s : ByteArray) (r' : RS) (c : Int) (hc : (takeF r' c).1 = false) (b : List Int) : ∀ (a : List Int) (m i : Nat) (r : RS), i + m = s.size → (bts s).drop i = a ++ c :: b → runL a r = some r' → loopF s m r i = (0, 0, 0, 0, 0, 0, 0, 34, ((i + a.length : Nat) : Int)) := by
  intro a
  induction a with
  | nil =>
    intro m i r hi hd hr
    cases hr
    have hl : i < s.size := by
      rw [← bts_len]
      have : ((bts s).drop i).length = b.length + 1 := by rw [hd]; simp
      rw [List.length_drop] at this; omega
    obtain ⟨m, rfl⟩ : ∃ q, m = q + 1 := ⟨m - 1, by omega⟩
    rw [List.drop_eq_getElem_cons (by rw [bts_len]; omega), bts_at s i hl] at hd
    have e : bt s i = c := (List.cons.inj hd).1
    rw [loopF, e, if_neg (by rw [hc]; simp)]; rfl
  | cons x a ih =>
    intro m i r hi hd hr
    have hl : i < s.size := by
      rw [← bts_len]
      have : ((bts s).drop i).length = (x :: a ++ c :: b).length := by rw [hd]
      rw [List.length_drop] at this; simp at this; omega
    obtain ⟨m, rfl⟩ : ∃ q, m = q + 1 := ⟨m - 1, by omega⟩
    rw [List.drop_eq_getElem_cons (by rw [bts_len]; omega), bts_at s i hl] at hd
    have e : bt s i = x := (List.cons.inj hd).1
    rw [runL] at hr
    by_cases ht : (takeF r x).1 = true
    · rw [if_pos ht] at hr
      rw [loopF, e, if_pos ht, ih m (i + 1) _ (by omega) (List.cons.inj hd).2 hr]
      simp; omega
    · rw [if_neg ht] at hr; cases hr
theorem fnd_33 : ∀ (m k : Nat), fnd 33 m k = none
  | 0, _ => rfl
  | m + 1, k => by
    rw [fnd, if_neg, fnd_33 m (k + 1)]
    unfold L; repeat' split
    all_goals omega
theorem take_33 (r : RS) : (takeF r 33).1 = false := by
  unfold takeF
  rw [if_neg (by omega)]
  by_cases h : r.hs > 0
  · rw [if_pos h]
    unfold letF
    rw [if_neg (by omega), fnd_33]
  · rw [if_neg h, if_neg (by omega)]
/-- a span's text, cut and lengthened -/
theorem span_cut {t : ByteArray} {l : List Int} {r : RS} (h : bts t = 80 :: l) (hl : l.length ≤ 62) (hr : runL l r0 = some r) (k : Nat) (hk : k < t.size) :
    ∃ r1 r2 r3 r4 r5 r6 r7 e p : Int, cal_ParseSpan.f (t.extract 0 k) = some (r1, r2, r3, r4, r5, r6, r7, e, p) ∧ (e = 0 ∨ (e = 34 ∧ p = k)) := by
  obtain ⟨ts, tb⟩ := bt0 h
  have ks : (t.extract 0 k).size = k := by rw [ByteArray.size_extract]; omega
  have kl : bts (t.extract 0 k) = (bts t).take k := by
    unfold bts
    rw [ByteArray.data_extract, Array.toList_extract]
    simp [List.extract_eq_take_drop, List.map_take]
  cases k with
  | zero =>
    unfold cal_ParseSpan.f
    rw [if_neg (by omega), if_pos (.inl ks)]
    exact ⟨_, _, _, _, _, _, _, _, _, rfl, .inr ⟨rfl, rfl⟩⟩
  | succ k =>
    rw [h, List.take_succ_cons] at kl
    have hsp : runL (l.take k ++ l.drop k) r0 = some r := by rw [List.take_append_drop]; exact hr
    rw [runL_app] at hsp
    obtain ⟨r', h1, h2⟩ := Option.bind_eq_some_iff.1 hsp
    rw [parse_of_run kl (by rw [List.length_take]; omega) h1]
    unfold finF
    split
    · exact ⟨_, _, _, _, _, _, _, _, _, rfl, .inr ⟨rfl, by rw [ks]⟩⟩
    · exact ⟨_, _, _, _, _, _, _, _, _, rfl, .inl rfl⟩
theorem span_more {t : ByteArray} {l : List Int} {r : RS} (h : bts t = 80 :: l) (hl : l.length ≤ 62) (hr : runL l r0 = some r) :
    cal_ParseSpan.f (t ++ (⟨#[33]⟩ : ByteArray)) = some (0, 0, 0, 0, 0, 0, 0, 34, (t.size : Int)) := by
  obtain ⟨ts, tb⟩ := bt0 h
  have hb : bts (t ++ (⟨#[33]⟩ : ByteArray)) = 80 :: (l ++ [33]) := by rw [bts_app, h]; rfl
  obtain ⟨q1, q2⟩ := bt0 hb
  have ql : (l ++ [33]).length = l.length + 1 := by simp
  unfold cal_ParseSpan.f
  have hn : ¬ ((t ++ (⟨#[33]⟩ : ByteArray)).size = 0 ∨ bt (t ++ (⟨#[33]⟩ : ByteArray)) 0 ≠ 80) := fun e => e.elim (fun e => by omega) (fun e => e q2)
  rw [if_neg (by omega), if_neg hn, loopF_stop _ r 33 (take_33 r) [] l _ 1 r0 (by omega) (by rw [hb]; rfl) hr]
  exact congrArg some (by simp; omega)
/-- a span's text has three bytes or more -/
theorem span_three {t : ByteArray} {l : List Int} {r : RS} (h : bts t = 80 :: l) (hr : runL l r0 = some r) (h0 : r.hs = 0) (hb : r.bg = true) : 3 ≤ t.size := by
  obtain ⟨ts, tb⟩ := bt0 h
  match l, hr with
  | [], hr => cases hr; cases hb
  | [c], hr =>
    exfalso
    rw [runL] at hr
    by_cases ht : (takeF r0 c).1 = true
    · rw [if_pos ht] at hr
      cases hr
      unfold takeF at ht h0 hb
      by_cases hd : 48 ≤ c ∧ c ≤ 57
      · rw [if_pos hd] at h0
        rw [if_neg (by simp [r0, RS.to])] at h0
        simp [r0] at h0
      · rw [if_neg hd, if_neg (by simp [r0])] at hb
        by_cases e : c = 84 ∧ r0.ti = false ∧ r0.en = false
        · rw [if_pos e] at hb; cases hb
        · rw [if_neg e] at hb; cases hb
    · rw [if_neg ht] at hr; cases hr
  | a :: b :: l, _ => simp at ts; omega
theorem std_run : ∃ r : RS, runL [49, 89, 50, 77, 51, 68, 84, 52, 72, 53, 77, 54, 83] r0 = some r := by
  exact ⟨_, rfl⟩
end Go.Proofs.YtiklakkkgmilnaaDoor.CalP
set_option linter.unusedVariables false
set_option linter.unusedSimpArgs false
namespace Go.Proofs.YtiklakkkgmilnaaDoor.CalP
open Go.RowKit Go.IntWalk Go.Proofs.YtiklakkkgmilnaaDoorW.PrintWords Go.Proofs.YtiklakkkgmilnaaDoor.Ext Go.Proofs.YtiklakkkgmilnaaDoor.PCal Go.Proofs.YtiklakkkgmilnaaDoor.GC

theorem shp_bd' (s : ByteArray) : ∀ (L : List ByteArray) (i : Nat) (b : Int), 0 ≤ b → b ≤ s.size → 0 ≤ (shp s L i b).2 ∧ (shp s L i b).2 ≤ s.size := by
  intro L
  induction L with
  | nil => intro i b h0 h1; exact ⟨h0, h1⟩
  | cons h l ih =>
    intro i b h0 h1
    rw [shp]
    have := (fit_le s h).1
    split
    · exact ⟨Int.le_refl _, by show (0 : Int) ≤ s.size; omega⟩
    · exact ih _ _ (by unfold mx; omega) (by unfold mx; omega)
theorem clkR_bd' {a b c g : Int} {z : Int} (ha : 0 ≤ a) (hb : 0 ≤ b) (hc : 0 ≤ c) (hg : 0 ≤ g) (z0 : 0 ≤ z) (z1 : 59 < b → g ≤ z) (z2 : 59 < c → 2 * g ≤ z) : 0 ≤ (clkR a b c g).1 ∧ (clkR a b c g).1 ≤ 100000 ∧ 0 ≤ (clkR a b c g).2.2 ∧ (clkR a b c g).2.2 ≤ z := by
  unfold clkR
  repeat' split
  all_goals (simp; try omega)
/-- an extended clock's part: the place of a fault lies in it -/
theorem clockE_bd (H : ByteArray) : 0 ≤ (clockF H true).1 ∧ (clockF H true).1 ≤ 100000 ∧ 0 ≤ (clockF H true).2.2 ∧ (clockF H true).2.2 ≤ H.size := by
  have sb := shp_bd' H CE 0 0 (by omega) (by omega)
  by_cases hok : (shp H CE 0 0).1 < 0
  · have e : clockF H true = (0, false, (shp H CE 0 0).2) := if_pos hok
    rw [e]
    exact ⟨by simp, by simp, sb.1, sb.2⟩
  · have dd : ∀ (h : ByteArray) (a : Nat), fit H h = h.size → a + 2 ≤ h.size → (∀ j, j < a + 2 → a ≤ j → bt h j = 100) → 0 ≤ nmv H a 2 := by
      intro h a hf ha hj
      have := nmv_bd H a 2 (dig_of hf a (a + 2) ha hj)
      omega
    have e : clockF H true = _ := if_neg hok
    obtain ⟨j, hj, e1, e2, e3⟩ := shp_get H CE 0 0 (by omega)
    simp only [if_true] at e
    simp only [e1, Nat.zero_add] at e
    have hj3 : j < 3 := hj
    match j, hj3 with
    | 0, _ =>
      have E : clockF H true = clkR (nmv H 0 2) 0 0 3 := e
      rw [E]; exact clkR_bd' (dd ⟨#[100, 100]⟩ 0 e3 (by decide) (by decide)) (by omega) (by omega) (by omega) (by omega) (by omega) (by omega)
    | 1, _ =>
      have E : clockF H true = clkR (nmv H 0 2) (nmv H 3 2) 0 3 := e
      have hz : fit H ⟨#[100, 100, 58, 100, 100]⟩ = 5 := e3
      have hz2 : fit H ⟨#[100, 100, 58, 100, 100]⟩ = H.size := e2
      rw [E]; exact clkR_bd' (dd ⟨#[100, 100, 58, 100, 100]⟩ 0 e3 (by decide) (by decide)) (dd ⟨#[100, 100, 58, 100, 100]⟩ 3 e3 (by decide) (by decide)) (by omega) (by omega) (by omega) (by omega) (by omega)
    | 2, _ =>
      have E : clockF H true = clkR (nmv H 0 2) (nmv H 3 2) (nmv H 6 2) 3 := e
      have hz : fit H ⟨#[100, 100, 58, 100, 100, 58, 100, 100]⟩ = 8 := e3
      have hz2 : fit H ⟨#[100, 100, 58, 100, 100, 58, 100, 100]⟩ = H.size := e2
      rw [E]; exact clkR_bd' (dd ⟨#[100, 100, 58, 100, 100, 58, 100, 100]⟩ 0 e3 (by decide) (by decide)) (dd ⟨#[100, 100, 58, 100, 100, 58, 100, 100]⟩ 3 e3 (by decide) (by decide)) (dd ⟨#[100, 100, 58, 100, 100, 58, 100, 100]⟩ 6 e3 (by decide) (by decide)) (by omega) (by omega) (by omega) (by omega)
theorem kA_none {C : List Int} (hC : ∀ c ∈ C, 48 ≤ c ∧ c ≤ 58) : kA (strOfNums C) = -1 := by
  unfold kA
  rw [strOfNums_data]
  refine Lib.indexAny_none ?_
  intro j b _ hb
  obtain ⟨c, hc, rfl⟩ := List.mem_map.1 (List.mem_of_getElem? hb)
  exact notZ (hC c hc)
theorem iT_none {L : List Int} (h : noT L) : iT (strOfNums L) = -1 := by
  unfold iT
  rw [strOfNums_data]
  refine ib_none _ _ ?_
  intro x hx
  obtain ⟨c, hc, rfl⟩ := List.mem_map.1 hx
  have := h c hc
  exact byte_ne (e := 84) ⟨this.1, this.2.1⟩ (by omega) this.2.2
section
variable {y m d h mi s : Int}
/-- an instant's text, cut -/
theorem inst_cut (hv : vldB y m d = true) (hh : 0 ≤ h ∧ h ≤ 23) (hm : 0 ≤ mi ∧ mi ≤ 59) (hs : 0 ≤ s ∧ s ≤ 59) (k : Nat) (hk : k < 20) :
    ∃ e p : Int, cal_ParseInstant.f ((strOfNums (tE y m d h mi s 0)).extract 0 k) = some (0, e, p) ∧ e ≠ 0 ∧ p ≤ k := by
  obtain ⟨v1, v2, v3, v4, v5, v6⟩ := vld_out hv
  have hdm := dim_bd y m v3 v4
  have n0 : noT (T0 y m d) := noT_app (noT_app (noT_app (noT_app (noT_D4 ⟨v1, v2⟩) noT_45) (noT_D2 (by omega))) noT_45) (noT_D2 (by omega))
  have l0 : (T0 y m d).length = 10 := by simp [T0, D4, D2]
  have p0 : cal_ParseDate.f (strOfNums (T0 y m d)) = some (y, m, d, 0, 0) := parse_TL hv 0 (by omega) (fun q => absurd q (by omega))
  have eT : tE y m d h mi s 0 = T0 y m d ++ (84 :: (ckE h mi s ++ [90])) := by simp [tE, zE]
  rw [ext_nums', List.drop_zero, eT]
  by_cases c : k ≤ 10
  · rw [List.take_append_of_le_length (by omega)]
    have nk : noT ((T0 y m d).take k) := fun c hc => n0 c (List.mem_of_mem_take hc)
    have sz : (strOfNums ((T0 y m d).take k)).size = k := by rw [strOfNums_size, List.length_take]; omega
    have ef : fstT (strOfNums ((T0 y m d).take k)) = strOfNums ((T0 y m d).take k) := by unfold fstT; rw [iT_none nk, if_neg (by omega)]
    unfold cal_ParseInstant.f
    rw [if_neg (by omega), ef, iT_none nk]
    by_cases c2 : k = 10
    · subst c2
      rw [List.take_of_length_le (by omega), p0]
      simp only [Option.bind_some]
      rw [if_neg (by simp), if_pos (by omega), strOfNums_size, l0]
      exact ⟨_, _, rfl, by omega, by omega⟩
    · have H : Has (strOfNums (T0 y m d)) 0 := has_of (by omega) (shp_f0 ⟨v1, v2⟩ (by omega) (by omega))
      have hsz : (strOfNums (T0 y m d)).size = 10 := by rw [strOfNums_size, l0]
      rcases date_cut H k (by omega) with e | ⟨e, _⟩
      · rw [ext_nums', List.drop_zero] at e
        rw [e]
        simp only [Option.bind_some]
        rw [if_pos (by simp)]
        exact ⟨_, _, rfl, by simp, by simp⟩
      · exact absurd e (by omega)
  · obtain ⟨q, rfl⟩ : ∃ q, k = 11 + q := ⟨k - 11, by omega⟩
    have et : (T0 y m d ++ (84 :: (ckE h mi s ++ [90]))).take (11 + q) = T0 y m d ++ (84 :: (ckE h mi s).take q) := by
      have l8 : (ckE h mi s).length = 8 := by simp [ckE, D2]
      rw [List.take_append, List.take_of_length_le (by omega), l0, show 11 + q - 10 = q + 1 by omega, List.take_succ_cons, List.take_append_of_le_length (by omega)]
    rw [et]
    have hC : ∀ c ∈ (ckE h mi s).take q, 48 ≤ c ∧ c ≤ 58 := fun c hc => okE hh hm hs c (List.mem_of_mem_take hc)
    have lq : ((ckE h mi s).take q).length = q := by rw [List.length_take]; simp [ckE, D2]; omega
    have e0 : strOfNums (T0 y m d ++ (84 :: (ckE h mi s).take q)) = strOfNums (T0 y m d) ++ ((⟨#[84]⟩ : ByteArray) ++ strOfNums ((ckE h mi s).take q)) := by
      rw [show (⟨#[84]⟩ : ByteArray) = strOfNums [84] from rfl, nums_app, nums_app]; rfl
    have szR : (strOfNums ((ckE h mi s).take q)).size = q := by rw [strOfNums_size, lq]
    have ka := kA_none hC
    have eh : hrs (strOfNums ((ckE h mi s).take q)) = strOfNums ((ckE h mi s).take q) := by unfold hrs; rw [ka, if_neg (by omega)]
    have cb := clockE_bd (strOfNums ((ckE h mi s).take q))
    rw [szR] at cb
    have x0 : decide (0 ≤ Lib.indexByte (strOfNums (T0 y m d)).data.toList 45) = true := dash0 (by simp [T0])
    rw [e0, inst_TX n0 (by omega) (by omega) x0 p0 rfl (clockF (strOfNums ((ckE h mi s).take q)) true).1 (clockF (strOfNums ((ckE h mi s).take q)) true).2.1 (clockF (strOfNums ((ckE h mi s).take q)) true).2.2 (by rw [eh]), if_neg (by omega), ka, szR, l0]
    by_cases cc : (clockF (strOfNums ((ckE h mi s).take q)) true).2.1 = false
    · rw [if_pos cc]
      exact ⟨_, _, rfl, by omega, by push_cast; omega⟩
    · rw [if_neg cc, if_pos (by omega)]
      exact ⟨_, _, rfl, by omega, by push_cast; omega⟩
theorem inst_more (hv : vldB y m d = true) (hh : 0 ≤ h ∧ h ≤ 23) (hm : 0 ≤ mi ∧ mi ≤ 59) (hs : 0 ≤ s ∧ s ≤ 59) :
    cal_ParseInstant.f (strOfNums (tE y m d h mi s 0) ++ (⟨#[33]⟩ : ByteArray)) = some (0, 33, 20) := by
  obtain ⟨v1, v2, v3, v4, v5, v6⟩ := vld_out hv
  have hdm := dim_bd y m v3 v4
  have n0 : noT (T0 y m d) := noT_app (noT_app (noT_app (noT_app (noT_D4 ⟨v1, v2⟩) noT_45) (noT_D2 (by omega))) noT_45) (noT_D2 (by omega))
  have l0 : (T0 y m d).length = 10 := by simp [T0, D4, D2]
  have l8 : (ckE h mi s).length = 8 := by simp [ckE, D2]
  have p0 : cal_ParseDate.f (strOfNums (T0 y m d)) = some (y, m, d, 0, 0) := parse_TL hv 0 (by omega) (fun q => absurd q (by omega))
  have x0 : decide (0 ≤ Lib.indexByte (strOfNums (T0 y m d)).data.toList 45) = true := dash0 (by simp [T0])
  have e0 : strOfNums (tE y m d h mi s 0) ++ (⟨#[33]⟩ : ByteArray) = strOfNums (T0 y m d) ++ ((⟨#[84]⟩ : ByteArray) ++ strOfNums (ckE h mi s ++ 90 :: [33])) := by
    rw [show (⟨#[33]⟩ : ByteArray) = strOfNums [33] from rfl, show (⟨#[84]⟩ : ByteArray) = strOfNums [84] from rfl, nums_app, nums_app, nums_app]
    simp [tE, zE]
  have ka := kA_nums (Z := [33]) (okE hh hm hs) (.inl rfl)
  have szR : (strOfNums (ckE h mi s ++ 90 :: [33])).size = 10 := by rw [strOfNums_size]; simp [l8]
  have eh : hrs (strOfNums (ckE h mi s ++ 90 :: [33])) = strOfNums (ckE h mi s) := by
    unfold hrs
    rw [ka, if_pos (by omega), Int.toNat_natCast, ext_nums']; simp
  have hz' : (strOfNums (ckE h mi s ++ 90 :: [33])).extract (kA (strOfNums (ckE h mi s ++ 90 :: [33]))).toNat (strOfNums (ckE h mi s ++ 90 :: [33])).size = strOfNums [90, 33] := by
    rw [ka, Int.toNat_natCast, ext_nums', List.take_of_length_le (by rw [strOfNums_size]; exact Nat.le_refl _), List.drop_left]
  have hzn : cal_zone.f 100 (strOfNums [90, 33]) true = some (0, false, 1) := by decide +kernel
  have hck := clockE hh hm hs
  rw [e0, inst_TX n0 (by omega) (by omega) x0 p0 rfl (h * 3600 + mi * 60 + s) true 0 (by rw [eh]; exact hck), if_neg (by omega), if_neg (by simp), hz', hzn, ka, l8, if_neg (by omega)]
  simp only [Option.bind_some]
  unfold inst4
  rw [if_neg (by simp), if_pos rfl, l0]
  rfl
end
theorem cprintspan_some (y mo wk d h mi s : Int) : ∃ r, cal_PrintSpan.f y mo wk d h mi s = some r := by
  unfold cal_PrintSpan.f
  repeat' split
  all_goals exact ⟨_, rfl⟩
theorem j3_eq (k : Nat) (x : Int) (hx : -9223372036854775808 ≤ x ∧ x ≤ 9223372036854775807) {t : ByteArray} {l : List Int} {r : RS} (h : bts t = 80 :: l) (hl : l.length ≤ 62) (hr : runL l r0 = some r) (h3 : 3 ≤ t.size) : larderlaw03_CalCut.j3 (k + 1) x t = some true := by
  obtain ⟨ts, tb⟩ := bt0 h
  obtain ⟨v, e1, v1, v2⟩ := within_eq x 0 ((t.size : Int) - 1) hx (by omega) (by omega) (by omega)
  obtain ⟨q, rfl⟩ : ∃ q : Nat, v = q := ⟨v.toNat, by omega⟩
  obtain ⟨r1, r2, r3, r4, r5, r6, r7, e, p, c1, c2⟩ := span_cut h hl hr q (by omega)
  rw [larderlaw03_CalCut.j3, if_neg (by omega), w64 (x := (t.size : Int) - 1) (by omega) (by omega), e1]
  simp only [Option.bind_some]
  rw [if_pos (by omega), if_pos (by omega), Int.toNat_natCast, c1]
  simp only [Option.bind_some]
  rw [if_pos (by omega), span_more h hl hr]
  simp only [Option.bind_some]
  rcases c2 with rfl | ⟨rfl, rfl⟩
  · simp
  · simp
theorem j2_eq (k : Nat) (x : Int) (hx : -9223372036854775808 ≤ x ∧ x ≤ 9223372036854775807) (y mo wk d h mi s : Int) : larderlaw03_CalCut.j2 (k + 2) x false y mo wk d h mi s = some true := by
  obtain ⟨⟨t, e⟩, hf⟩ := cprintspan_some y mo wk d h mi s
  rw [larderlaw03_CalCut.j2, if_neg (by simp), hf]
  simp only [Option.bind_some]
  by_cases he : e = 0
  · subst he
    obtain ⟨l, r, e1, e2, e3, e4, e5, e6, _⟩ := span_run hf
    rw [if_pos rfl]
    exact j3_eq k x hx e1 e2 e3 (span_three e1 e3 e4 e5)
  · rw [if_neg he]
    obtain ⟨r, hr⟩ := std_run
    exact j3_eq k x hx (l := [49, 89, 50, 77, 51, 68, 84, 52, 72, 53, 77, 54, 83]) rfl (by simp) hr (by decide)
theorem has_TX {y m d : Int} (hv : vldB y m d = true) (h2 : 2 ≤ num y m d) (f : Nat) (hf : f < 6) : Has (TX y m d f) f := by
  obtain ⟨v1, v2, v3, v4, v5, v6⟩ := vld_out hv
  obtain ⟨n1, n2, n3, n4⟩ := num_bd hv
  have hdm := dim_bd y m v3 v4
  have hb := beg_succ y v1
  have hl := lpN_01 y
  have kb := wkW_bd v1 v2 n1 n2
  have wb := wd_bd (num y m d)
  have hw := wkY_ok hv h2
  match f, hf with
  | 0, _ => exact has_of (by omega) (shp_f0 ⟨v1, v2⟩ (by omega) (by omega))
  | 1, _ => exact has_of (by omega) (shp_f1 ⟨v1, v2⟩ (by omega) (by omega))
  | 2, _ => exact has_of (by omega) (shp_f2 ⟨v1, v2⟩ (by omega))
  | 3, _ => exact has_of (by omega) (shp_f3 ⟨v1, v2⟩ (by omega))
  | 4, _ => exact has_of (by omega) (shp_f4 hw (by omega) (by omega))
  | 5, _ => exact has_of (by omega) (shp_f5 hw (by omega) (by omega))
theorem txs_rd' (y m d : Int) : ∀ f : Nat, f < 6 → rdOf ByteArray.empty (TXs y m d) (f : Int) = TX y m d f
  | 0, _ => rfl
  | 1, _ => rfl
  | 2, _ => rfl
  | 3, _ => rfl
  | 4, _ => rfl
  | 5, _ => rfl
theorem cut_step {y m d : Int} (hv : vldB y m d = true) (h2 : 2 ≤ num y m d) (x1 x3 : Int) (hx : -9223372036854775808 ≤ x3 ∧ x3 ≤ 9223372036854775807) (q f : Nat) (hf : f < 6) (a b c e g h i : Int) :
    larderlaw03_CalCut.l0 (q + 2) x1 x3 (TXs y m d) f a b c e g h i = larderlaw03_CalCut.l0 q x1 x3 (TXs y m d) ((f + 1 : Nat) : Int) a b c e g h i := by
  have H := has_TX hv h2 f hf
  have hz := SH_sz f hf
  have hs := H.size
  have j1 : larderlaw03_CalCut.j1 (q + 1) x1 x3 (TXs y m d) f (TX y m d f) false a b c e g h i = larderlaw03_CalCut.l0 q x1 x3 (TXs y m d) ((f + 1 : Nat) : Int) a b c e g h i := by
    rw [larderlaw03_CalCut.j1, if_neg (by simp), if_pos (by omega), date_more H]
    simp only [Option.bind_some]
    rw [if_pos trivial, if_pos trivial, wS (by omega)]; rfl
  obtain ⟨v, e1, v1, v2⟩ := within_eq x3 0 (((TX y m d f).size : Int) - 1) hx (by omega) (by omega) (by omega)
  obtain ⟨p, rfl⟩ : ∃ p : Nat, v = p := ⟨v.toNat, by omega⟩
  rw [larderlaw03_CalCut.l0, if_pos (by omega), if_pos (by omega), if_pos (by show (f : Int) < 6; omega), txs_rd' y m d f hf, if_neg (by omega), w64 (x := ((TX y m d f).size : Int) - 1) (by omega) (by omega), e1]
  simp only [Option.bind_some]
  rw [if_pos (by omega), if_pos (by omega), Int.toNat_natCast]
  rcases date_cut H p (by omega) with r | ⟨rfl, rfl⟩
  · rw [r]
    simp only [Option.bind_some]
    rw [if_neg (by omega), if_pos trivial, if_pos trivial]
    exact j1
  · obtain ⟨r1, r2, r3, er, pr, r, hr⟩ := date_seven H
    rw [r]
    simp only [Option.bind_some]
    rcases hr with rfl | ⟨rfl, rfl⟩
    · rw [if_pos rfl]; exact j1
    · rw [if_neg (by omega), if_neg (by omega), if_pos rfl, decide_eq_false (by omega)]; exact j1
set_option maxHeartbeats 1000000 in
theorem calCut_pure (a0 a1 y0 mo wk d0 h0 mi s a3 : Int) (b0 : -9223372036854775808 ≤ a0 ∧ a0 ≤ 9223372036854775807) (b1 : -9223372036854775808 ≤ a1 ∧ a1 ≤ 9223372036854775807) (_ : -9223372036854775808 ≤ y0 ∧ y0 ≤ 9223372036854775807) (_ : -9223372036854775808 ≤ mo ∧ mo ≤ 9223372036854775807) (_ : -9223372036854775808 ≤ wk ∧ wk ≤ 9223372036854775807) (_ : -9223372036854775808 ≤ d0 ∧ d0 ≤ 9223372036854775807) (_ : -9223372036854775808 ≤ h0 ∧ h0 ≤ 9223372036854775807) (_ : -9223372036854775808 ≤ mi ∧ mi ≤ 9223372036854775807) (_ : -9223372036854775808 ≤ s ∧ s ≤ 9223372036854775807) (b3 : -9223372036854775808 ≤ a3 ∧ a3 ≤ 9223372036854775807) :
    ∃ k, larderlaw03_CalCut.f k a0 a1 y0 mo wk d0 h0 mi s a3 = some true := by
  obtain ⟨k, hk⟩ : ∃ k, 30010 ≤ k := ⟨30010, Nat.le_refl _⟩
  refine ⟨k + 15, ?_⟩
  unfold larderlaw03_CalCut.f
  obtain ⟨u, e2, u1, u2⟩ := within_eq a0 2 3652424 b0 (by omega) (by omega) (by omega)
  obtain ⟨y, m, d, hv, rfl⟩ := day_ex u (by omega) (by omega)
  rw [e2]
  simp only [Option.bind_some]
  rw [at_eq (k + 15) (by omega) hv]
  simp only [Option.bind_some]
  rw [forms_eq hv u1 (k + 15) (by omega)]
  simp only [Option.bind_some, if_true]
  have s0 := cut_step hv u1 a1 a3 b3 (k + 13) 0 (by omega) y0 mo wk d0 h0 mi s
  have s1 := cut_step hv u1 a1 a3 b3 (k + 11) 1 (by omega) y0 mo wk d0 h0 mi s
  have s2 := cut_step hv u1 a1 a3 b3 (k + 9) 2 (by omega) y0 mo wk d0 h0 mi s
  have s3 := cut_step hv u1 a1 a3 b3 (k + 7) 3 (by omega) y0 mo wk d0 h0 mi s
  have s4 := cut_step hv u1 a1 a3 b3 (k + 5) 4 (by omega) y0 mo wk d0 h0 mi s
  have s5 := cut_step hv u1 a1 a3 b3 (k + 3) 5 (by omega) y0 mo wk d0 h0 mi s
  refine s0.trans (s1.trans (s2.trans (s3.trans (s4.trans (s5.trans ?_)))))
  rw [larderlaw03_CalCut.l0, if_neg (by decide)]
  obtain ⟨x, ex, x1, x2⟩ := within_eq a1 0 315569519999 b1 (by omega) (by omega) (by omega)
  rw [ex]
  simp only [Option.bind_some]
  obtain ⟨Y, M, D, hV, hn⟩ := day_ex (x / 86400) (by omega) (by omega)
  rw [print_eq (k + 2) (by omega) x 0 (by omega) (by omega) (by omega) x1 x2 hV hn]
  simp only [Option.bind_some]
  have bh : 0 ≤ x % 86400 / 3600 ∧ x % 86400 / 3600 ≤ 23 := by omega
  have bm : 0 ≤ x % 86400 / 60 % 60 ∧ x % 86400 / 60 % 60 ≤ 59 := by omega
  have bs : 0 ≤ x % 86400 % 60 ∧ x % 86400 % 60 ≤ 59 := by omega
  generalize x % 86400 / 3600 = h at *
  generalize x % 86400 / 60 % 60 = mm at *
  generalize x % 86400 % 60 = ss at *
  have l20 : (strOfNums (tE Y M D h mm ss 0)).size = 20 := by rw [strOfNums_size]; simp [tE, zE, T0, ckE, D4, D2]
  obtain ⟨v, e1, v1, v2⟩ := within_eq a3 0 19 b3 (by omega) (by omega) (by omega)
  obtain ⟨p, rfl⟩ : ∃ p : Nat, v = p := ⟨v.toNat, by omega⟩
  obtain ⟨e, pp, c1, c2, c3⟩ := inst_cut hV bh bm bs p (by omega)
  rw [l20, if_pos (by omega), show wrap64 (((20 : Nat) : Int) - 1) = 19 by decide +kernel, e1]
  simp only [Option.bind_some]
  rw [if_pos (by omega), if_pos (by omega), Int.toNat_natCast, c1]
  simp only [Option.bind_some]
  rw [if_pos (by omega), inst_more hV bh bm bs]
  simp only [Option.bind_some]
  rw [if_pos trivial, if_neg c2, if_neg (by omega), if_pos trivial]
  rw [show ((20 : Int) != ((20 : Nat) : Int)) = false by decide]
  exact j2_eq k a3 b3 y0 mo wk d0 h0 mi s
end Go.Proofs.YtiklakkkgmilnaaDoor.CalP
