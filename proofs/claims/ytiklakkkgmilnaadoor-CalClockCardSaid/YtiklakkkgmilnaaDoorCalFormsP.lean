/- The six texts of a day, as the law makes them ('forms'): what PrintDate answers of each form. -/
import Derived.Test.YtiklakkkgmilnaaDoorCalOrdP
import Derived.Test.YtiklakkkgmilnaaDoorCalPcP
import Derived.Test.YtiklakkkgmilnaaDoorGCxf29
set_option linter.unusedVariables false
set_option linter.unusedSimpArgs false
namespace Go.Proofs.YtiklakkkgmilnaaDoor.CalP
open Go.RowKit Go.IntWalk Go.Proofs.YtiklakkkgmilnaaDoorW.PrintWords Go.Proofs.YtiklakkkgmilnaaDoor.Ext Go.Proofs.YtiklakkkgmilnaaDoor.PCal Go.Proofs.YtiklakkkgmilnaaDoor.GC

/-- the f-th text of a day -/
def TX (y m d : Int) (f : Nat) : ByteArray := strOfNums (TL y m d (num y m d - beg y + 1) (wkY y (num y m d)) (wkW y (num y m d)) (wd (num y m d) + 1) f)
theorem pd_TX {y m d : Int} (hv : vldB y m d = true) (h2 : 2 ≤ num y m d) (f : Nat) (hf : f < 6) : pd y m d (num y m d) f = (TX y m d f, 0) := by
  obtain ⟨v1, v2, v3, v4, v5, v6⟩ := vld_out hv
  obtain ⟨n1, n2, n3, n4⟩ := num_bd hv
  have hdm := dim_bd y m v3 v4
  have hb := beg_succ y v1
  have hl := lpN_01 y
  have kb := wkW_bd v1 v2 n1 n2
  have wb := wd_bd (num y m d)
  have hw := wkY_ok hv h2
  have q1 := P4_eq (n := y) ⟨v1, v2⟩
  have q2 := P2_eq (n := m) (by omega)
  have q3 := P2_eq (n := d) (by omega)
  have q4 := P3_eq (n := num y m d - beg y + 1) (by omega)
  have q5 := P4_eq (n := wkY y (num y m d)) hw
  have q6 := P2_eq (n := wkW y (num y m d)) (by omega)
  have q7 := P1_eq (n := wd (num y m d) + 1) (by omega)
  have s1 : (⟨#[45]⟩ : ByteArray) = strOfNums [45] := rfl
  have s2 : (⟨#[87]⟩ : ByteArray) = strOfNums [87] := rfl
  have s3 : (⟨#[45, 87]⟩ : ByteArray) = strOfNums [45, 87] := rfl
  match f, hf with
  | 0, _ =>
    show pd y m d (num y m d) ((0 : Nat) : Int) = (strOfNums (D4 y ++ [45] ++ D2 m ++ [45] ++ D2 d), 0)
    unfold pd
    rw [if_neg (by omega), if_pos (by omega), q1, q2, q3, s1]
    simp only [nums_app]
  | 1, _ =>
    show pd y m d (num y m d) ((1 : Nat) : Int) = (strOfNums (D4 y ++ D2 m ++ D2 d), 0)
    unfold pd
    rw [if_neg (by omega), if_neg (by omega), if_pos (by omega), q1, q2, q3]
    simp only [nums_app]
  | 2, _ =>
    show pd y m d (num y m d) ((2 : Nat) : Int) = (strOfNums (D4 y ++ [45] ++ D3 (num y m d - beg y + 1)), 0)
    unfold pd
    rw [if_neg (by omega), if_neg (by omega), if_neg (by omega), if_pos (by omega), q1, q4, s1]
    simp only [nums_app]
  | 3, _ =>
    show pd y m d (num y m d) ((3 : Nat) : Int) = (strOfNums (D4 y ++ D3 (num y m d - beg y + 1)), 0)
    unfold pd
    rw [if_neg (by omega), if_neg (by omega), if_neg (by omega), if_neg (by omega), if_pos (by omega), q1, q4]
    simp only [nums_app]
  | 4, _ =>
    show pd y m d (num y m d) ((4 : Nat) : Int) = (strOfNums (D4 (wkY y (num y m d)) ++ [45, 87] ++ D2 (wkW y (num y m d)) ++ [45] ++ D1 (wd (num y m d) + 1)), 0)
    unfold pd
    rw [if_neg (by omega), if_neg (by omega), if_neg (by omega), if_neg (by omega), if_neg (by omega), if_neg (by omega), if_pos (by omega), q5, q6, q7, s1, s3]
    simp only [nums_app]
  | 5, _ =>
    show pd y m d (num y m d) ((5 : Nat) : Int) = (strOfNums (D4 (wkY y (num y m d)) ++ [87] ++ D2 (wkW y (num y m d)) ++ D1 (wd (num y m d) + 1)), 0)
    unfold pd
    rw [if_neg (by omega), if_neg (by omega), if_neg (by omega), if_neg (by omega), if_neg (by omega), if_neg (by omega), if_neg (by omega), q5, q6, q7, s2]
    simp only [nums_app]
def TXs (y m d : Int) : List ByteArray := [TX y m d 0, TX y m d 1, TX y m d 2, TX y m d 3, TX y m d 4, TX y m d 5]
theorem forms_eq {y m d : Int} (hv : vldB y m d = true) (h2 : 2 ≤ num y m d) (k : Nat) (hk : 30010 ≤ k) : larderlaw03_forms.f k y m d = some (TXs y m d, true) := by
  have hp : ∀ (k : Nat) (f : Nat), 30001 ≤ k → f < 6 → cal_PrintDate.f k y m d f = some (TX y m d f, 0) := by
    intro k f hk hf
    rw [cprint_eq k hk y m d f, if_pos hv, pd_TX hv h2 f hf]
  unfold larderlaw03_forms.f
  obtain ⟨k, rfl⟩ : ∃ q, k = q + 7 := ⟨k - 7, by omega⟩
  have step : ∀ (k f : Nat) (l : List ByteArray), 30001 ≤ k → f < 6 → l.length < 100 → larderlaw03_forms.l0 (k + 1) l f y m d = larderlaw03_forms.l0 k (l ++ [TX y m d f]) ((f + 1 : Nat) : Int) y m d := by
    intro k f l hk hf hl
    rw [larderlaw03_forms.l0, if_pos (by omega), hp k f hk hf]
    simp only [Option.bind_some]
    rw [if_pos trivial, if_pos (by omega), wS (by omega)]
    rfl
  have s0 := step (k + 6) 0 [] (by omega) (by omega) (by simp)
  have s1 := step (k + 5) 1 [TX y m d 0] (by omega) (by omega) (by simp)
  have s2 := step (k + 4) 2 [TX y m d 0, TX y m d 1] (by omega) (by omega) (by simp)
  have s3 := step (k + 3) 3 [TX y m d 0, TX y m d 1, TX y m d 2] (by omega) (by omega) (by simp)
  have s4 := step (k + 2) 4 [TX y m d 0, TX y m d 1, TX y m d 2, TX y m d 3] (by omega) (by omega) (by simp)
  have s5 := step (k + 1) 5 [TX y m d 0, TX y m d 1, TX y m d 2, TX y m d 3, TX y m d 4] (by omega) (by omega) (by simp)
  have e6 : larderlaw03_forms.l0 (k + 1) (TXs y m d) 6 y m d = some (TXs y m d, true) := by rw [larderlaw03_forms.l0, if_neg (by omega)]
  exact s0.trans (s1.trans (s2.trans (s3.trans (s4.trans (s5.trans e6)))))
end Go.Proofs.YtiklakkkgmilnaaDoor.CalP
