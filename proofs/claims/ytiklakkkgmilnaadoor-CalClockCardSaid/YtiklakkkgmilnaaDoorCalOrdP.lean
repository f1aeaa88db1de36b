/- Texts of digits stand in the order of their numbers; the days' texts in the order of the days. -/
import Derived.Test.YtiklakkkgmilnaaDoorCalFormP
set_option linter.unusedVariables false
set_option linter.unusedSimpArgs false
namespace Go.Proofs.YtiklakkkgmilnaaDoor.CalP
open Go.RowKit Go.IntWalk Go.Proofs.YtiklakkkgmilnaaDoorW.PrintWords Go.Proofs.YtiklakkkgmilnaaDoor.Ext Go.Proofs.YtiklakkkgmilnaaDoor.PCal Go.Proofs.YtiklakkkgmilnaaDoor.GC

/-- the order of two lists of bytes -/
def lx : List Int → List Int → Bool
  | _, [] => false
  | [], _ :: _ => true
  | a :: x, b :: y => decide (a < b) || (decide (a = b) && lx x y)
theorem less_nums : ∀ {l k : List Int}, okL l → okL k → Op.bytesLess (l.map fun n => UInt8.ofNat n.toNat) (k.map fun n => UInt8.ofNat n.toNat) = lx l k
  | _, [], _, _ => by unfold lx Op.bytesLess; rfl
  | [], _ :: _, _, _ => by unfold lx Op.bytesLess; rfl
  | a :: l, b :: k, hl, hk => by
    have ha := hl a List.mem_cons_self
    have hb := hk b List.mem_cons_self
    have ih := less_nums (fun c h => hl c (List.mem_cons_of_mem _ h)) (fun c h => hk c (List.mem_cons_of_mem _ h))
    simp only [List.map_cons, Op.bytesLess, lx]
    rw [ih]
    have e1 : (decide (UInt8.ofNat a.toNat < UInt8.ofNat b.toNat)) = decide (a < b) := by
      apply decide_eq_decide.2
      rw [UInt8.lt_iff_toNat_lt, UInt8.toNat_ofNat', UInt8.toNat_ofNat']
      omega
    have e2 : (UInt8.ofNat a.toNat == UInt8.ofNat b.toNat) = decide (a = b) := by
      rw [Bool.eq_iff_iff, beq_iff_eq, decide_eq_true_iff, ← UInt8.toNat_inj, UInt8.toNat_ofNat', UInt8.toNat_ofNat']
      omega
    rw [e1, e2]
theorem toList_nums (l : List Int) : (strOfNums l).toList = l.map fun n => UInt8.ofNat n.toNat := by rw [ByteArray.toList_eq, strOfNums_data]
theorem less_str {l k : List Int} (hl : okL l) (hk : okL k) : Op.bytesLess (strOfNums l).toList (strOfNums k).toList = lx l k := by
  rw [toList_nums, toList_nums]; exact less_nums hl hk
/-- the number of a list of digits, and of what stands between them -/
def vl : List Int → Int
  | [] => 0
  | c :: l => (c - 48) * 10 ^ l.length + vl l
/-- digits at the same places, the same bytes elsewhere -/
def alike : List Int → List Int → Prop
  | [], [] => True
  | a :: l, b :: k => ((48 ≤ a ∧ a ≤ 57 ∧ 48 ≤ b ∧ b ≤ 57) ∨ a = b) ∧ alike l k
  | _, _ => False
theorem alike_len : ∀ {l k : List Int}, alike l k → l.length = k.length
  | [], [], _ => rfl
  | _ :: l, _ :: k, h => by simp [alike_len h.2]
  | [], _ :: _, h => h.elim
  | _ :: _, [], h => h.elim
theorem vl_gap : ∀ {l k : List Int}, alike l k → vl l - vl k < 10 ^ l.length ∧ vl k - vl l < 10 ^ l.length
  | [], [], _ => by simp [vl]
  | a :: l, b :: k, h => by
    have ih := vl_gap h.2
    have hl := alike_len h.2
    simp only [vl, List.length_cons, hl] at *
    rw [Int.pow_succ]
    have hp : (0 : Int) < 10 ^ k.length := Int.pow_pos (by decide)
    generalize (10 : Int) ^ k.length = p at *
    have key : ∀ z : Int, -9 ≤ z → z ≤ 9 → z * p ≤ 9 * p ∧ -(9 * p) ≤ z * p := by
      intro z z1 z2
      constructor
      · exact Int.mul_le_mul_of_nonneg_right z2 (by omega)
      · have := Int.mul_le_mul_of_nonneg_right z1 (show 0 ≤ p by omega); omega
    rcases h.1 with q | q
    · have := key (a - b) (by omega) (by omega)
      have e : (a - 48) * p - (b - 48) * p = (a - b) * p := by rw [← Int.sub_mul]; congr 1; omega
      omega
    · subst q; omega
  | [], _ :: _, h => h.elim
  | _ :: _, [], h => h.elim
theorem lx_vl : ∀ {l k : List Int}, alike l k → lx l k = decide (vl l < vl k)
  | [], [], _ => by simp [lx, vl]
  | a :: l, b :: k, h => by
    have ih := lx_vl h.2
    have gp := vl_gap h.2
    have hl := alike_len h.2
    rw [lx, ih]
    simp only [vl, hl] at *
    have hp : (0 : Int) < 10 ^ k.length := Int.pow_pos (by decide)
    generalize (10 : Int) ^ k.length = p at *
    have e : (a - 48) * p - (b - 48) * p = (a - b) * p := by rw [← Int.sub_mul]; congr 1; omega
    by_cases c1 : a < b
    · have : (a - b) * p ≤ -1 * p := Int.mul_le_mul_of_nonneg_right (by omega) (by omega)
      rw [decide_eq_true c1, decide_eq_true (show (a - 48) * p + vl l < (b - 48) * p + vl k by omega)]; rfl
    · by_cases c2 : a = b
      · subst c2
        rw [decide_eq_false c1, decide_eq_true rfl]
        simp only [Bool.false_or, Bool.true_and]
        exact decide_eq_decide.2 (by omega)
      · have : 1 * p ≤ (a - b) * p := Int.mul_le_mul_of_nonneg_right (by omega) (by omega)
        rw [decide_eq_false c1, decide_eq_false c2, decide_eq_false (show ¬ (a - 48) * p + vl l < (b - 48) * p + vl k by omega)]; rfl
  | [], _ :: _, h => h.elim
  | _ :: _, [], h => h.elim
section
variable {y m d n a w x y' m' d' n' a' w' x' : Int}
theorem lx_f0 (hy : 0 ≤ y ∧ y ≤ 9999) (hm : 0 ≤ m ∧ m ≤ 99) (hd : 0 ≤ d ∧ d ≤ 99) (hy' : 0 ≤ y' ∧ y' ≤ 9999) (hm' : 0 ≤ m' ∧ m' ≤ 99) (hd' : 0 ≤ d' ∧ d' ≤ 99) :
    lx (D4 y ++ [45] ++ D2 m ++ [45] ++ D2 d) (D4 y' ++ [45] ++ D2 m' ++ [45] ++ D2 d') = decide (y * 1000000 + m * 1000 + d < y' * 1000000 + m' * 1000 + d') := by
  rw [lx_vl (by simp [alike, D4, D2]; omega)]
  apply decide_eq_decide.2
  simp [vl, D4, D2]
  omega
theorem lx_f1 (hy : 0 ≤ y ∧ y ≤ 9999) (hm : 0 ≤ m ∧ m ≤ 99) (hd : 0 ≤ d ∧ d ≤ 99) (hy' : 0 ≤ y' ∧ y' ≤ 9999) (hm' : 0 ≤ m' ∧ m' ≤ 99) (hd' : 0 ≤ d' ∧ d' ≤ 99) :
    lx (D4 y ++ D2 m ++ D2 d) (D4 y' ++ D2 m' ++ D2 d') = decide (y * 10000 + m * 100 + d < y' * 10000 + m' * 100 + d') := by
  rw [lx_vl (by simp [alike, D4, D2]; omega)]
  apply decide_eq_decide.2
  simp [vl, D4, D2]
  omega
theorem lx_f2 (hy : 0 ≤ y ∧ y ≤ 9999) (hn : 0 ≤ n ∧ n ≤ 999) (hy' : 0 ≤ y' ∧ y' ≤ 9999) (hn' : 0 ≤ n' ∧ n' ≤ 999) :
    lx (D4 y ++ [45] ++ D3 n) (D4 y' ++ [45] ++ D3 n') = decide (y * 10000 + n < y' * 10000 + n') := by
  rw [lx_vl (by simp [alike, D4, D3]; omega)]
  apply decide_eq_decide.2
  simp [vl, D4, D3]
  omega
theorem lx_f4 (hy : 0 ≤ a ∧ a ≤ 9999) (hm : 0 ≤ w ∧ w ≤ 99) (hd : 0 ≤ x ∧ x ≤ 9) (hy' : 0 ≤ a' ∧ a' ≤ 9999) (hm' : 0 ≤ w' ∧ w' ≤ 99) (hd' : 0 ≤ x' ∧ x' ≤ 9) :
    lx (D4 a ++ [45, 87] ++ D2 w ++ [45] ++ D1 x) (D4 a' ++ [45, 87] ++ D2 w' ++ [45] ++ D1 x') = decide (a * 1000000 + w * 100 + x < a' * 1000000 + w' * 100 + x') := by
  rw [lx_vl (by simp [alike, D4, D2, D1]; omega)]
  apply decide_eq_decide.2
  simp [vl, D4, D2, D1]
  omega
end
/-- days stand in the order of their numbers -/
theorem num_lt {y m d y' m' d' : Int} (h : vldB y m d = true) (h' : vldB y' m' d' = true) (q : y < y' ∨ (y = y' ∧ (m < m' ∨ (m = m' ∧ d < d')))) : num y m d < num y' m' d' := by
  obtain ⟨n1, n2, n3, n4⟩ := num_bd h
  obtain ⟨n1', n2', n3', n4'⟩ := num_bd h'
  obtain ⟨v1, v2, v3, v4, v5, v6⟩ := vld_out h
  obtain ⟨v1', v2', v3', v4', v5', v6'⟩ := vld_out h'
  rcases q with q | ⟨rfl, q | ⟨rfl, q⟩⟩
  · have := beg_mono (y + 1) y' (by omega) (by omega); omega
  · have e := ahd_succ y m v3 v4
    have f := ahd_mono y (m + 1) m' (by omega) (by omega) (by omega)
    unfold num; omega
  · unfold num; omega
theorem lex3 {y m d y' m' d' : Int} (h : vldB y m d = true) (h' : vldB y' m' d' = true) : decide (y * 1000000 + m * 1000 + d < y' * 1000000 + m' * 1000 + d') = decide (num y m d < num y' m' d') ∧
    decide (y * 10000 + m * 100 + d < y' * 10000 + m' * 100 + d') = decide (num y m d < num y' m' d') := by
  obtain ⟨v1, v2, v3, v4, v5, v6⟩ := vld_out h
  obtain ⟨v1', v2', v3', v4', v5', v6'⟩ := vld_out h'
  have b := dim_bd y m v3 v4
  have b' := dim_bd y' m' v3' v4'
  by_cases q : y < y' ∨ (y = y' ∧ (m < m' ∨ (m = m' ∧ d < d')))
  · have := num_lt h h' q
    rw [decide_eq_true this, decide_eq_true (by omega), decide_eq_true (by omega)]; exact ⟨rfl, rfl⟩
  · by_cases e : y = y' ∧ m = m' ∧ d = d'
    · obtain ⟨rfl, rfl, rfl⟩ := e; simp
    · have := num_lt h' h (by omega)
      rw [decide_eq_false (show ¬ num y m d < num y' m' d' by omega), decide_eq_false (by omega), decide_eq_false (by omega)]; exact ⟨rfl, rfl⟩
theorem lex2 {y m d y' m' d' : Int} (h : vldB y m d = true) (h' : vldB y' m' d' = true) : decide (y * 10000 + (num y m d - beg y + 1) < y' * 10000 + (num y' m' d' - beg y' + 1)) = decide (num y m d < num y' m' d') := by
  obtain ⟨n1, n2, n3, n4⟩ := num_bd h
  obtain ⟨n1', n2', n3', n4'⟩ := num_bd h'
  obtain ⟨v1, v2, _⟩ := vld_out h
  obtain ⟨v1', v2', _⟩ := vld_out h'
  have s := beg_succ y v1
  have s' := beg_succ y' v1'
  have l := lpN_01 y
  have l' := lpN_01 y'
  apply decide_eq_decide.2
  by_cases q : y < y'
  · have := beg_mono (y + 1) y' (by omega) (by omega); omega
  · by_cases e : y = y'
    · subst e; omega
    · have := beg_mono (y' + 1) y (by omega) (by omega); omega
theorem fst_mono {a b : Int} (h : -1 ≤ a) (hab : a < b) (hb : b ≤ 9999) : fst_ a + 7 * wks a ≤ fst_ b := by
  have key : ∀ g : Nat, ∀ a : Int, -1 ≤ a → b - a = g + 1 → fst_ a + 7 * wks a ≤ fst_ b := by
    intro g
    induction g with
    | zero => intro a h e; have := (wks_ref a h).2; rw [show a + 1 = b by omega] at this; omega
    | succ g ih =>
      intro a h e
      have s := (wks_ref a h).2
      have := ih (a + 1) (by omega) (by omega)
      have w := wks_bd (a + 1)
      omega
  exact key (b - a - 1).toNat a h (by omega)
theorem lexw {y m d y' m' d' : Int} (h : vldB y m d = true) (h' : vldB y' m' d' = true) (ha : 0 ≤ wkY y (num y m d) ∧ wkY y (num y m d) ≤ 9999) (ha' : 0 ≤ wkY y' (num y' m' d') ∧ wkY y' (num y' m' d') ≤ 9999) :
    decide (wkY y (num y m d) * 1000000 + wkW y (num y m d) * 100 + (wd (num y m d) + 1) < wkY y' (num y' m' d') * 1000000 + wkW y' (num y' m' d') * 100 + (wd (num y' m' d') + 1)) = decide (num y m d < num y' m' d') := by
  obtain ⟨n1, n2, n3, n4⟩ := num_bd h
  obtain ⟨n1', n2', n3', n4'⟩ := num_bd h'
  obtain ⟨v1, v2, _⟩ := vld_out h
  obtain ⟨v1', v2', _⟩ := vld_out h'
  obtain ⟨k1, k2, k3⟩ := wk_back v1 v2 n1 n2
  obtain ⟨k1', k2', k3'⟩ := wk_back v1' v2' n1' n2'
  have b := wks_bd (wkY y (num y m d))
  have b' := wks_bd (wkY y' (num y' m' d'))
  have w := wd_bd (num y m d)
  have w' := wd_bd (num y' m' d')
  apply decide_eq_decide.2
  generalize wkY y (num y m d) = p at *
  generalize wkY y' (num y' m' d') = p' at *
  generalize wkW y (num y m d) = u at *
  generalize wkW y' (num y' m' d') = u' at *
  generalize num y m d = n at *
  generalize num y' m' d' = n' at *
  by_cases q : p < p'
  · have := fst_mono (a := p) (b := p') (by omega) q (by omega); omega
  · by_cases e : p = p'
    · subst e; omega
    · have := fst_mono (a := p') (b := p) (by omega) (by omega) (by omega); omega
/-- from the third day on a week lies in a year from 0 to 9999 -/
theorem wkY_ok {y m d : Int} (h : vldB y m d = true) (h2 : 2 ≤ num y m d) : 0 ≤ wkY y (num y m d) ∧ wkY y (num y m d) ≤ 9999 := by
  obtain ⟨n1, n2, n3, n4⟩ := num_bd h
  obtain ⟨v1, v2, _⟩ := vld_out h
  obtain ⟨t1, t2, t3, t4, t5, t6⟩ := wkY_in v1 v2 n1 n2
  have ht : 0 ≤ thu (num y m d) ∧ thu (num y m d) ≤ 3652424 := by unfold thu wd; omega
  constructor
  · by_cases c : wkY y (num y m d) = -1
    · rw [c] at t2; have e : beg (-1 + 1) = 0 := by decide
      omega
    · omega
  · by_cases c : wkY y (num y m d) = 10000
    · rw [c] at t1; have e : beg 10000 = 3652425 := by decide
      omega
    · omega
end Go.Proofs.YtiklakkkgmilnaaDoor.CalP
