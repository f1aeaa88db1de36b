/- What PrintDate of cal answers: the text for every date and form. -/
import Derived.Test.YtiklakkkgmilnaaDoorCalWB
import Derived.Test.YtiklakkkgmilnaaDoorCalPadP
import Derived.Test.YtiklakkkgmilnaaDoorGCxf37
namespace Go.Proofs.YtiklakkkgmilnaaDoor.CalP
open Go.RowKit Go.Proofs.YtiklakkkgmilnaaDoorW.PrintWords Go.Proofs.YtiklakkkgmilnaaDoor.Ext Go.Proofs.YtiklakkkgmilnaaDoor.PCal Go.Proofs.YtiklakkkgmilnaaDoor.GC

/-- the text of a day (y, m, d) with number n in a form -/
def pd (y m d n form : Int) : ByteArray × Int :=
  if form < 0 ∨ form > 5 then ((⟨#[]⟩ : ByteArray), 2)
  else if form = 0 then (P y 4 ++ (⟨#[45]⟩ : ByteArray) ++ P m 2 ++ (⟨#[45]⟩ : ByteArray) ++ P d 2, 0)
  else if form = 1 then (P y 4 ++ P m 2 ++ P d 2, 0)
  else if form = 2 then (P y 4 ++ (⟨#[45]⟩ : ByteArray) ++ P (n - beg y + 1) 3, 0)
  else if form = 3 then (P y 4 ++ P (n - beg y + 1) 3, 0)
  else if wkY y n < 0 then ((⟨#[]⟩ : ByteArray), 35)
  else if form = 4 then (P (wkY y n) 4 ++ (⟨#[45, 87]⟩ : ByteArray) ++ P (wkW y n) 2 ++ (⟨#[45]⟩ : ByteArray) ++ P (wd n + 1) 1, 0)
  else (P (wkY y n) 4 ++ (⟨#[87]⟩ : ByteArray) ++ P (wkW y n) 2 ++ P (wd n + 1) 1, 0)
theorem cprint_eq (k : Nat) (hk : 30001 ≤ k) (y m d form : Int) :
    cal_PrintDate.f k y m d form = some (if vldB y m d = true then pd y m d (num y m d) form else ((⟨#[]⟩ : ByteArray), 30)) := by
  unfold cal_PrintDate.f
  rw [weekOf_eq]
  simp only [Option.bind_some]
  obtain ⟨k, rfl⟩ : ∃ q, k = q + 1 := ⟨k - 1, by omega⟩
  cases h : vldB y m d with
  | false => simp
  | true =>
    obtain ⟨h1, h2, h3, h4, h5, h6⟩ := vld_out h
    obtain ⟨n1, n2, n3, n4⟩ := num_bd h
    have hd := dim_bd y m h3 h4
    have hi := wkY_in h1 h2 n1 n2
    have hW := wkW_bd h1 h2 n1 n2
    have hw := wd_bd (num y m d)
    have hb := beg_bd y h1 (by omega)
    simp only [if_true]
    unfold pd
    by_cases f0 : form < 0
    · rw [if_pos f0, if_pos (Or.inl f0)]
      simp [cal_PrintDate.j0]
    rw [if_neg f0]
    by_cases f5 : form > 5
    · rw [decide_eq_true f5, if_pos (Or.inr f5)]
      simp [cal_PrintDate.j0]
    rw [decide_eq_false f5, if_neg (by omega)]
    have e1 := pad_eq k y 4 (by omega) h1 (by omega) (by omega) (by omega)
    have e2 := pad_eq k m 2 (by omega) (by omega) (by omega) (by omega) (by omega)
    have e3 := pad_eq k d 2 (by omega) (by omega) (by omega) (by omega) (by omega)
    have e4 := pad_eq k (num y m d - beg y + 1) 3 (by omega) (by omega) (by omega) (by omega) (by omega)
    have e6 := pad_eq k (wkW y (num y m d)) 2 (by omega) (by omega) (by omega) (by omega) (by omega)
    have e7 := pad_eq k (wd (num y m d) + 1) 1 (by omega) (by omega) (by omega) (by omega) (by omega)
    have z1 := P_size y 4
    have z2 := P_size m 2
    have z3 := P_size d 2
    have z4 := P_size (num y m d - beg y + 1) 3
    have z5 := P_size (wkY y (num y m d)) 4
    have z6 := P_size (wkW y (num y m d)) 2
    have z7 := P_size (wd (num y m d) + 1) 1
    have q1 := number_eq y m d h
    have q2 := begin_eq y (by omega) (by omega)
    have q5 : wrap64 (wrap64 (num y m d - beg y) + 1) = num y m d - beg y + 1 := by rw [w64 (x := num y m d - beg y) (by omega) (by omega), w64 (by omega) (by omega)]
    simp only [cal_PrintDate.j0]
    rw [e1, q1, q2]
    simp only [Option.bind_some, q5, e2, e3, e4, e6, e7, if_false, Bool.false_eq_true]
    by_cases a0 : form = 0
    · simp only [if_pos a0]
      repeat rw [if_pos (by omega)]
      first | done | rfl
    simp only [if_neg a0]
    by_cases a1 : form = 1
    · simp only [if_pos a1]
      repeat rw [if_pos (by omega)]
      first | done | rfl
    simp only [if_neg a1]
    by_cases a2 : form = 2
    · simp only [if_pos a2]
      repeat rw [if_pos (by omega)]
      first | done | rfl
    simp only [if_neg a2]
    by_cases a3 : form = 3
    · simp only [if_pos a3]
      repeat rw [if_pos (by omega)]
      first | done | rfl
    simp only [if_neg a3]
    by_cases a4 : wkY y (num y m d) < 0
    · simp only [if_pos a4]
      first | done | rfl
    simp only [if_neg a4]
    have e5 := pad_eq k (wkY y (num y m d)) 4 (by omega) (by omega) (by omega) (by omega) (by omega)
    simp only [Option.bind_some, e5]
    by_cases a5 : form = 4
    · simp only [if_pos a5]
      repeat rw [if_pos (by omega)]
      first | done | rfl
    simp only [if_neg a5]
    repeat rw [if_pos (by omega)]
    first | done | rfl
end Go.Proofs.YtiklakkkgmilnaaDoor.CalP
